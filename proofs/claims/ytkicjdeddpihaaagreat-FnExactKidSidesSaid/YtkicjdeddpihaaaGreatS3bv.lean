/- The reference's KidSides, SizedBox. -/
import Derived.Test.YtkicjdeddpihaaaGreatS3bu
set_option linter.unusedVariables false
set_option linter.unusedSimpArgs false
set_option maxHeartbeats 32000000
namespace Go.Proofs.YtkicjdeddpihaaaGreat
open Go.ChangeShapes Go.WideShapes Go.ChangeAt Go.RowKit Am Go.Proofs.Tryz
set_option maxRecDepth 100000
theorem Ho(qs:List kO)(x:kO):SA (qs++[x])=SA qs++[lc (kO.c x)]:=bu _ _ _
theorem wK{α:Type}(c:α->Array Value):vw c ([]:List α)=[]:=rfl
theorem sK(ns:List af)(hl:ns.length<=1048576)(hs:∀y∈ns,af.small y)(ht:eV ns=true)(rtl keeps:Bool)(bx:Bx)(c L:Nat)(hL:L<=1073741824)(n:Int)(x:af)(h1:isN ns n=true)(hx:ns[(n-1).toNat]? =some x)(w0 w1 h0' h1':Int)(hbx:∀kid∈flK ns n,yX (vwA af.ac ns) rtl keeps bx c L kid)(st:St)(hm:st.1.length+(40*c+1)<=L)(hq:st.2.length+(40*c+1)<=L)
  (hal:∀I,I=(k9 bx (plO ns n ⟨w0,w1⟩ ⟨h0',h1'⟩) rtl ns (flK ns n) st).1->∀l∈nj (plO ns n ⟨w0,w1⟩ ⟨h0',h1'⟩) I,al5 (lit I l) (l.map (elZ (pv (plO ns n ⟨w0,w1⟩ ⟨h0',h1'⟩) I))) (DB (plO ns n ⟨w0,w1⟩ ⟨h0',h1'⟩)) (Dz (plO ns n ⟨w0,w1⟩ ⟨h0',h1'⟩) I)=true)
  (hac:∀I st1,(I,st1)=k9 bx (plO ns n ⟨w0,w1⟩ ⟨h0',h1'⟩) rtl ns (flK ns n) st->∀cs,cs=yM (plO ns n ⟨w0,w1⟩ ⟨h0',h1'⟩) (nj (plO ns n ⟨w0,w1⟩ ⟨h0',h1'⟩) I) (s8 bx (plO ns n ⟨w0,w1⟩ ⟨h0',h1'⟩) rtl ns ((flK ns n).zip (pv (plO ns n ⟨w0,w1⟩ ⟨h0',h1'⟩) I)) st1).1->acr cs (uz (plO ns n ⟨w0,w1⟩ ⟨h0',h1'⟩)) (Aw (plO ns n ⟨w0,w1⟩ ⟨h0',h1'⟩) cs)=true):
  SE prog 97 (sR (vwA af.ac ns) rtl keeps) (SM st.1) (SA st.2) [.c (.ptr 0 0 0),ai n,agP ⟨w0,w1⟩,agP ⟨h0',h1'⟩] (.t (.agg (km.ac (yw bx ns rtl n ⟨w0,w1⟩ ⟨h0',h1'⟩ st).1))) (SM (yw bx ns rtl n ⟨w0,w1⟩ ⟨h0',h1'⟩ st).2.1) (SA (yw bx ns rtl n ⟨w0,w1⟩ ⟨h0',h1'⟩ st).2.2):=by
 obtain⟨n1,n2,_⟩:=bD h1
 have h0:=jB ht n1 hx
 have h9:=uO ht n1 hx
 have h6:∀k∈flK ns n,isN ns k=true:=fun k h=>h0 k (sm hx k h)
 have hY:flK ns n=iA (i6 ns) (x.kids.filter (mz ns)):=sn hx
 have hU:(flK ns n).length<20:=by rw [hY,lA];exact Nat.lt_of_le_of_lt (List.length_filter_le _ _) (by omega)
 have cU:=nw ns n x hs ht hl n1 n2 hx (by omega) h0 w0 w1 h0' h1'
 rw [<-hY]at cU
 have cy:=bL ns n x n1 (by omega) hx (vwA af.ac ns) _ _ rfl rfl rfl
 have hW:kst ns n=x.style:=jg hx
 have h7:nod ns n=x:=Fv hx
 obtain⟨p,hp⟩:=nmE (plO ns n ⟨w0,w1⟩ ⟨h0',h1'⟩)
 have ha:PC0 34 [.agg [.view (vwA af.ac ns)],ai n,agP ⟨w0,w1⟩,agP ⟨h0',h1'⟩] (.t (.agg (nwL n p.s p.row p.al p.ac (knS p.wide) (.view (vw ah p.kids))))):=by
  rw [hp];unfold plO;rw [hW];exact cU
 clear cU
 have hb:p.kids=flK ns n:=by rw [hp];rfl
 have hP:p.s=x.style:=by rw [hp];exact hW
 unfold yw
 rw [h7,hW,<-hp]
 have cF:=fun(hkn:p.kids≠[])=>sL ns hl rtl keeps bx c L n p w0 w1 h0' h1' (by rw [hp];rfl) (by rw [hp];rfl) hkn (by rw [hb];exact hU) (by rw [hb];exact h6) (by rw [hb];exact hbx) st (by omega) (by omega) (by rw [hb,hp];exact hal _ rfl) (by rw [hb,hp];exact hac _ _ rfl)
 clear hal hac hbx
 obtain⟨V,hV⟩:=nmE (vwA af.ac ns)
 rw [<-hV]at cy ha⊢
 simp only [<-hV]at cF
 obtain⟨Kx,hH⟩:=nmE (vw ah x.kids)
 obtain⟨Rx,hE⟩:=nmE (vw aI.c x.table.rules)
 rw [<-hH,<-hE]at cy
 have h3:x.table.rules.length<=1048576:=(hs x (zqd hx)).2.1
 have hf:=gB x.style
 obtain⟨fe,hj⟩:=nmE (oE x.style)
 rw [<-hj]at hf
 obtain⟨fl,ft,fr,fb⟩:=fe
 have hh:=ix fl ft fr fb
 have hC:=iz fl ft fr fb
 obtain⟨B1,hr⟩:=nmE (adE fl fr)
 obtain⟨B2,hD⟩:=nmE (adE ft fb)
 change PC0 _ _ (.i (adE fl fr))at hh
 change PC0 _ _ (.i (adE ft fb))at hC
 rw [<-hr]at hh
 rw [<-hD]at hC
 obtain⟨M0,hw⟩:=nmE (SM st.1)
 obtain⟨A0,hc⟩:=nmE (SA st.2)
 have hk:aB M0=true:=by rw [hw];exact bZ _
 have hQ:aB A0=true:=by rw [hc];exact cj _
 have kn:∀g:Gd,g=G0 prog 3 f97.ntmps->g .q .gtr (g .ln (vw ah p.kids)) 0=decide (p.kids≠[]):=fun g hg=>by
  rw [da hg,bA hg,aN]
  cases p.kids with
  |nil=>rfl
  |cons a b=>exact decide_eq_decide.2 ⟨fun _=>by simp,fun _=>by simp only [zqx];omega⟩
 obtain⟨K,hK⟩:=nmE (vw ah p.kids)
 rw [<-hK]at ha kn
 simp only [<-hK]at cF
 obtain⟨x0,x1,x2,x3,x4⟩:=x
 dsimp only at hP hj h3 hH hE hf cy⊢
 by_cases hG:x3=true
 case neg=>
  rw [if_neg hG]
  replace hG:x3=false:=by simpa using hG
  subst hG
  by_cases hkn:p.kids=[]
  case neg=>
   rw [if_neg (by rw [<-hb];exact hkn)]
   have cF:=cF hkn
   obtain⟨rr,h8⟩:=nmE (Et bx p rtl ns st)
   rw [<-h8]at cF⊢
   rw [acE]at cF⊢
   have h4:=bZ rr.2.1
   have hB:=cj rr.2.2
   rw [<-hw,<-hc]at cF⊢
   obtain⟨M2,hO⟩:=nmE (SM rr.2.1);(try rw [<-hO]at cF);(try rw [<-hO]at h4);(try rw [<-hO]at⊢)
   obtain⟨A2,hi⟩:=nmE (SA rr.2.2);(try rw [<-hi]at cF);(try rw [<-hi]at hB);(try rw [<-hi]at⊢)
   obtain⟨FR,hS⟩:=nmE (vw aX.c rr.1.frames);(try rw [<-hS]at cF);(try rw [<-hS]at⊢)
   obtain⟨KW,he⟩:=nmE (knS p.wide);(try rw [<-he]at ha);(try rw [<-he]at cF)
   clear he hS hO hi hw hc hK hp hb hP hj hr hD hV hH hE
   refine dJ ([(9,.hand),(11,.hand)]) ([]) (c:=aK f97) ay func97 (by kernel_rfl) (by kernel_rfl) (bl (by rfl)) (by kernel_rfl) (fun g hX hd F hJ hM hg hF=> ?_)
   have kn:=kn g hg
   rw [zqu hkn]at kn
   cbv
   ((repeat'((first|rw [kn]|refine ad hg cy ?_|refine ad hg hf ?_|refine aa hg ha ?_|refine jk rfl hg 0 1 2 cF rfl rfl rfl (by decide) rfl hk hQ ⟨rfl,.inl ⟨rfl,rfl⟩,.inl ⟨rfl,rfl⟩,.inl ⟨rfl,rfl⟩,trivial⟩ rfl ?_);cbv)))
   exact tU 9 10 hF rfl rfl rfl rfl rfl (by decide) rfl h4 hB
  rw [if_pos (by rw [<-hb];exact hkn)]
  dsimp only
  rw [acE]
  unfold Bb
  dsimp only
  rw [<-hj]
  dsimp only
  rw [<-hr,<-hD,wK,<-hw,<-hc]
  obtain⟨WT,hA⟩:=nmE (wrap64 (0+B1))
  obtain⟨HT,hv⟩:=nmE (wrap64 (0+B2))
  rw [<-hA,<-hv]
  have hn:=eb w0 w1 WT
  have ho:=eb h0' h1' HT
  obtain⟨R1,hy⟩:=nmE (tak ⟨w0,w1⟩ WT);(try rw [<-hy]at hn);(try rw [<-hy]at⊢)
  obtain⟨R2,hz⟩:=nmE (tak ⟨h0',h1'⟩ HT);(try rw [<-hz]at ho);(try rw [<-hz]at⊢)
  obtain⟨KW,he⟩:=nmE (knS p.wide);(try rw [<-he]at ha)
  refine wY (t:=156) (k:=5) (V:=[]) (R:= .t (.agg [.J R1,.J R2,.J R2,.own 5])) ?_ (fun x hx=>by cases hx) (fun x hx=>by cases hx) rfl rfl rfl
  have t1:∀g:Gd,g=G0 prog 3 f97.ntmps->g .w .add .i64 0 B1=WT:=fun g hg=>by rw [aJ hg,hA]
  have t2:∀g:Gd,g=G0 prog 3 f97.ntmps->g .w .add .i64 0 B2=HT:=fun g hg=>by rw [aJ hg,hv]
  clear he hy hz hA hv hw hc hK hp hb hP hj hr hD hV hH hE cF
  refine dJ ([(9,.hand),(11,.hand)]) ([]) (c:=aK f97) ay func97 (by kernel_rfl) (by kernel_rfl) (bl (by rfl)) (by kernel_rfl) (fun g hX hd F hJ hM hg hF=> ?_)
  have kn:=kn g hg
  have t1:=t1 g hg
  have t2:=t2 g hg
  rw [zqt (Classical.not_not.2 hkn)]at kn
  cbv
  ((repeat'((first|rw [kn]|refine ad hg cy ?_|refine ad hg hf ?_|refine aa hg ha ?_);cbv)))
  refine fi hg hM ay [0,1,2,3,4,5,6,7,8,9,10,11] (.op 12 [13] (.op 14 [] (.op 15 [] .done .none) .none) (.op 14 [] (.op 12 [13] (.op 15 [] .done .none) .none) .none)) (by kernel_rfl) (by kernel_rfl) (S:=Unit) (fun _=>True) (fun _=>[(8,.p 5),(14,.p 6)]) (fun _=>[.bx 74 5 [.view V,.B rtl,.B keeps,.own 1,.own 2],.rw ⟨146,10,M0⟩,.rw ⟨153,6,A0⟩,.bx 34 2 [.J w0,.J w1],.bx 34 2 [.J h0',.J h1'],.bx 43 4 [.J 0,.J 0,.J 0,.N],.bx 43 4 [.J R1,.J R2,.J 0,.own 7],.rw ⟨156,5,[]⟩]) (fun BL hu=> ?_) (fun _ _=> ?_)
  ·cbv
   ((repeat'(first|exact trivial|exact rfl|refine And.intro ?_ ?_|(rw [t1];(try cbv))|(rw [t2];(try cbv))|((first|refine aa hg hn ?_|refine aa hg ho ?_|refine aa hg hh ?_|refine aa hg hC ?_);cbv))))
   all_goals first
    |exact hu () trivial _ _ (Wk.weak (wkM [some 0,some 1,some 2,some 3,some 4,some 5,some 10,some 9] zr2 ⟨.inr ⟨_,_,rfl,rfl,rfl,rfl,.inr ⟨zr5,trivial⟩⟩,.inr (wqE rfl hk),.inr (wqE rfl hQ),.inr (wqE rfl rfl),.inr (wqE rfl rfl),.inr (wqE rfl rfl),.inr ⟨_,_,rfl,rfl,rfl,rfl,.inr ⟨zr4,trivial⟩⟩,.inr (wqE rfl rfl),trivial⟩ (by decide) ⟨.inr rfl,.inr rfl,.inr rfl,trivial⟩ ⟨.inr ⟨_,rfl⟩,.inr ⟨_,rfl⟩,.inr ⟨_,rfl⟩,trivial⟩))
    |exact hu () trivial _ _ (Wk.weak (wkM [some 0,some 1,some 2,some 3,some 4,some 5,some 9,some 10] zr2 ⟨.inr ⟨_,_,rfl,rfl,rfl,rfl,.inr ⟨zr5,trivial⟩⟩,.inr (wqE rfl hk),.inr (wqE rfl hQ),.inr (wqE rfl rfl),.inr (wqE rfl rfl),.inr (wqE rfl rfl),.inr ⟨_,_,rfl,rfl,rfl,rfl,.inr ⟨zr4,trivial⟩⟩,.inr (wqE rfl rfl),trivial⟩ (by decide) ⟨.inr rfl,.inr rfl,.inr rfl,trivial⟩ ⟨.inr ⟨_,rfl⟩,.inr ⟨_,rfl⟩,.inr ⟨_,rfl⟩,trivial⟩))
  cbv
  exact CY 1 2 7 hF rfl (.inr zr4) rfl rfl rfl rfl (by decide) rfl hk hQ rfl
 rw [if_pos hG]
 subst hG
 have hZ:inW x2 ⟨w0,w1⟩=qN ⟨w0,w1⟩ B1:=by unfold inW uA;rw [<-hj,hr];rfl
 have hN:=fk w0 w1 B1
 rw [hZ]
 obtain⟨⟨i0,i1⟩,hI⟩:∃q,q=qN ⟨w0,w1⟩ B1:=⟨_,rfl⟩
 change PC0 _ _ (.t (agP (qN ⟨w0,w1⟩ B1)))at hN
 rw [<-hI]at hN⊢
 have hR:=iy i0 i1
 obtain⟨RO,hT⟩:=nmE (iv ⟨i0,i1⟩);(try rw [<-hT]at hR);(try rw [<-hT]at⊢)
 have cW:=qY x4.rules RO h3
 rw [<-hE]at cW
 obtain⟨⟨q0,q1⟩,h2⟩:∃q,q=wnt x4.rules RO:=⟨_,rfl⟩
 rw [<-h2]at cW⊢
 dsimp only
 rw [acE]
 unfold Bb
 dsimp only
 rw [<-hj]
 dsimp only
 rw [<-hr,<-hD,wK,Ho,<-hw,<-hc]
 obtain⟨WT,hA⟩:=nmE (wrap64 (q0+B1))
 obtain⟨HT,hv⟩:=nmE (wrap64 (q1+B2))
 rw [<-hA,<-hv]
 have hn:=eb w0 w1 WT
 have ho:=eb h0' h1' HT
 obtain⟨R1,hy⟩:=nmE (tak ⟨w0,w1⟩ WT);(try rw [<-hy]at hn);(try rw [<-hy]at⊢)
 obtain⟨R2,hz⟩:=nmE (tak ⟨h0',h1'⟩ HT);(try rw [<-hz]at ho);(try rw [<-hz]at⊢)
 obtain⟨KW,he⟩:=nmE (knS p.wide);(try rw [<-he]at ha)
 have h5:A0.length<=1073741824:=by rw [hc];unfold SA;rw [av];omega
 obtain⟨A2,hi⟩:∃A,A=A0++[[.J n,.J w0,.J w1,.J h0',.J h1',.B rtl]]:=⟨_,rfl⟩
 have hB:aB A2=true:=by rw [hi,hc];unfold SA;exact jC _ _ rfl
 change SE _ _ _ _ _ _ _ _ (A0++[[.J n,.J w0,.J w1,.J h0',.J h1',.B rtl]])
 rw [<-hi]
 refine wY (t:=156) (k:=5) (V:=[]) (R:= .t (.agg [.J R1,.J R2,.J R2,.own 5])) ?_ (fun x hx=>by cases hx) (fun x hx=>by cases hx) rfl rfl rfl
 have t1:∀g:Gd,g=G0 prog 3 f97.ntmps->g .w .add .i64 q0 B1=WT:=fun g hg=>by rw [aJ hg,hA]
 have t2:∀g:Gd,g=G0 prog 3 f97.ntmps->g .w .add .i64 q1 B2=HT:=fun g hg=>by rw [aJ hg,hv]
 clear he hy hz hA hv hw hc hK hp hb hP hj hr hD hV hH hE cF h2 hT hI hZ kn
 refine dJ ([(9,.hand),(11,.hand)]) ([]) (c:=aK f97) ay func97 (by kernel_rfl) (by kernel_rfl) (bl (by rfl)) (by kernel_rfl) (fun g hX hd F hJ hM hg hF=> ?_)
 have t1:=t1 g hg
 have t2:=t2 g hg
 cbv
 ((repeat'((first|refine ad hg cy ?_|refine ad hg hf ?_|refine aa hg ha ?_);cbv)))
 refine fi hg hM ay [0,1,2,3,5,6,7,8,9,10,11,12] (.op 4 [] (.op 13 [] (.op 14 [15,16] (.op 17 [] .done .none) .none) .none) (.op 13 [] (.op 4 [] (.op 14 [15,16] (.op 17 [] .done .none) .none) .none) .none)) (by kernel_rfl) (by kernel_rfl) (S:=Unit) (fun _=>True) (fun _=>[(0,.p 0),(6,.p 3),(7,.p 4),(8,.p 5),(9,.p 6),(10,.p 7),(12,.i (0)),(13,.i (0))]) (fun _=>[.bx 74 5 [.view V,.B rtl,.B keeps,.own 1,.own 8],.rw ⟨146,10,M0⟩,.gn,.bx 34 2 [.J w0,.J w1],.bx 34 2 [.J h0',.J h1'],.bx 43 4 [.J 0,.J 0,.J 0,.N],.bx 119 64 (D6 ⟨x0,x1,x2,true,x4⟩ Kx Rx),.bx 62 4 [.J fl,.J ft,.J fr,.J fb],.rw ⟨153,6,A2⟩]) (fun BL hu=> ?_) (fun _ _=> ?_)
 ·cbv
  ((repeat'(first|exact trivial|exact rfl|refine And.intro ?_ ?_|(refine JG hg rfl (by decide) h5 ?_;cbv))))
  all_goals
   rw [ia hg,<-hi]
   exact hu () trivial _ _ (Wk.weak (wkM [some 0,some 1,none,some 3,some 4,some 5,some 6,some 7,some 10] zr8 ⟨.inr ⟨_,_,rfl,rfl,rfl,rfl,.inr ⟨zr5,trivial⟩⟩,.inr (wqE rfl hk),.inl rfl,.inr (wqE rfl rfl),.inr (wqE rfl rfl),.inr (wqE rfl rfl),.inr (wqE rfl rfl),.inr (wqE rfl rfl),.inr (wqE rfl hB),trivial⟩ (by decide) ⟨.inl rfl,.inr rfl,.inr rfl,trivial⟩ ⟨.inl rfl,.inr ⟨_,rfl⟩,.inr ⟨_,rfl⟩,trivial⟩))
 cbv
 ((repeat'((first|refine aa hg hh ?_|refine aa hg hN ?_|refine aa hg hR ?_|refine aa hg cW ?_);cbv)))
 refine fi hg hM ay [0,1,2,3,4,5,6,7,8,9,10,11] (.op 12 [13] (.op 14 [] (.op 15 [] .done .none) .none) (.op 14 [] (.op 12 [13] (.op 15 [] .done .none) .none) .none)) (by kernel_rfl) (by kernel_rfl) (S:=Unit) (fun _=>True) (fun _=>[(8,.p 5),(14,.p 6)]) (fun _=>[.bx 74 5 [.view V,.B rtl,.B keeps,.own 1,.own 8],.rw ⟨146,10,M0⟩,.gn,.bx 34 2 [.J w0,.J w1],.bx 34 2 [.J h0',.J h1'],.bx 43 4 [.J 0,.J 0,.J 0,.N],.bx 43 4 [.J R1,.J R2,.J 0,.own 7],.rw ⟨156,5,[]⟩,.rw ⟨153,6,A2⟩]) (fun BL hu=> ?_) (fun _ _=> ?_)
 ·cbv
  ((repeat'(first|exact trivial|exact rfl|refine And.intro ?_ ?_|(rw [t1];(try cbv))|(rw [t2];(try cbv))|((first|refine aa hg hn ?_|refine aa hg ho ?_|refine aa hg hh ?_|refine aa hg hC ?_);cbv))))
  all_goals first
   |exact hu () trivial _ _ (Wk.weak (wkM [some 0,some 1,none,some 3,some 4,some 5,some 10,some 9,some 8] zr2 ⟨.inr ⟨_,_,rfl,rfl,rfl,rfl,.inr ⟨zr5,trivial⟩⟩,.inr (wqE rfl hk),.inl rfl,.inr (wqE rfl rfl),.inr (wqE rfl rfl),.inr (wqE rfl rfl),.inr ⟨_,_,rfl,rfl,rfl,rfl,.inr ⟨zr4,trivial⟩⟩,.inr (wqE rfl rfl),.inr (wqE rfl hB),trivial⟩ (by decide) ⟨.inl rfl,.inr rfl,.inr rfl,trivial⟩ ⟨.inl rfl,.inr ⟨_,rfl⟩,.inr ⟨_,rfl⟩,trivial⟩))
   |exact hu () trivial _ _ (Wk.weak (wkM [some 0,some 1,none,some 3,some 4,some 5,some 9,some 10,some 8] zr2 ⟨.inr ⟨_,_,rfl,rfl,rfl,rfl,.inr ⟨zr5,trivial⟩⟩,.inr (wqE rfl hk),.inl rfl,.inr (wqE rfl rfl),.inr (wqE rfl rfl),.inr (wqE rfl rfl),.inr ⟨_,_,rfl,rfl,rfl,rfl,.inr ⟨zr4,trivial⟩⟩,.inr (wqE rfl rfl),.inr (wqE rfl hB),trivial⟩ (by decide) ⟨.inl rfl,.inr rfl,.inr rfl,trivial⟩ ⟨.inl rfl,.inr ⟨_,rfl⟩,.inr ⟨_,rfl⟩,trivial⟩))
 cbv
 exact CY 1 8 7 hF rfl (.inr zr4) rfl rfl rfl rfl (by decide) rfl hk hB rfl
theorem sM(V:LLA)(rtl:Bool)(kid:Int)(bb:km)(M A0 M2 A2:LLA)(w0 w1 h0' h1':Int)(pM:aB M=true)(pA:aB A0=true)(pM2:aB M2=true)(pA2:aB A2=true)(hc:SE prog 97 (sR V rtl false) M A0 [.c (.ptr 0 0 0),ai kid,agP ⟨w0,w1⟩,agP ⟨h0',h1'⟩] (.t (.agg (km.ac bb))) M2 A2):
  SE prog 44 (sR V rtl false) M A0 [.c (.ptr 0 0 0),ai kid,agP ⟨w0,w1⟩,agP ⟨h0',h1'⟩] (.t (.agg (km.ac bb))) M2 A2:=by
 rw [acE]at hc⊢
 obtain⟨FR,ha⟩:=nmE (vw aX.c bb.frames);(try rw [<-ha]at hc);(try rw [<-ha]at⊢)
 clear ha
 refine dJ ([(7,.hand),(10,.hand)]) ([]) (c:=aK f44) ay func44 (by kernel_rfl) (by kernel_rfl) (bl (by rfl)) (by kernel_rfl) (fun g he hd F hb hf hg hF=> ?_)
 cbv
 (refine jk rfl hg 0 1 2 hc rfl rfl rfl (by decide) rfl pM pA ⟨rfl,rfl,.inl ⟨rfl,rfl⟩,.inl ⟨rfl,rfl⟩,trivial⟩ rfl ?_;cbv)
 exact tU 6 7 hF rfl rfl rfl rfl rfl (by decide) rfl pM2 pA2
def inR(n:Int):Prop:=0<=n/\n<=1048576
theorem wt(n:Int):inR (cl n):=by unfold inR cl bro;split<;>(try split)<;>omega
theorem Iu{x:ag}(h:tG x=true):inR (hyp x):=by
 simp only [tG,rng,zqs,zqp]at h
 unfold inR hyp iu
 split<;>(try split)<;>(try split)<;>omega
theorem B7:∀(ps:List (Int×Int))(l:List Int),(∀p∈ps,inR p.2)->(∀v∈l,inR v)->∀v∈qo ps l,inR v
 | [],l,_,h=>h
 |p::ps,l,hp,h=>by
  refine B7 ps (l.set p.1.toNat p.2) (fun q hq=>hp q (List.mem_cons_of_mem _ hq)) fun v hv=> ?_
  rcases List.mem_or_eq_of_mem_set hv with h1|h1
  ·exact h v h1
  ·rw [h1];exact hp p (List.mem_cons_self ..)
variable {xs:List ag}
theorem FG{fr:List Bool}(hx:∀x∈xs,tG x=true)(hl:fr.length=xs.length){i:Int}(hi:i∈fre 0 fr):tG (itA xs i)=true:=by
 obtain⟨h1,h2,_⟩:=io fr 0 (Int.le_refl 0) i hi
 have ha:i.toNat<xs.length:=by omega
 have e:itA xs i=xs[i.toNat]:=by unfold itA;rw [zqc ha];rfl
 rw [e];exact hx _ (List.getElem_mem _)
theorem itR{x:ag}(h:tG x=true):inR x.least/\(0<=x.most->inR (qW x)):=by
 simp only [tG,rng,zqs,zqp]at h
 unfold inR qW
 refine⟨by omega,fun h0=> ?_⟩
 split<;>omega
theorem Gu(X:Fx)(fr:List Bool)(rest:Int)(hx:∀x∈X.xs,tG x=true)(hl:fr.length=X.xs.length):∀p∈X.setI fr rest,inR p.2:=by
 intro p hp
 unfold Fx.setI at hp
 split at hp
 ·unfold Fx.shs at hp
  obtain⟨q,_,rfl⟩:=List.mem_map.1 hp
  exact wt _
 ·rcases List.mem_append.1 hp with h|h
  ·split at h
   ·obtain⟨i,hi,rfl⟩:=List.mem_map.1 h
    unfold Fx.low at hi
    exact(itR (FG hx hl (List.mem_filter.1 hi).1)).1
   ·cases h
  ·split at h
   ·obtain⟨i,hi,rfl⟩:=List.mem_map.1 h
    unfold Fx.hig at hi
    obtain⟨h1,h2⟩:=List.mem_filter.1 hi
    simp only [zqs,wb,zqp]at h2
    exact(itR (FG hx hl h1)).2 h2.2.1
   ·cases h
theorem B9(X:Fx)(hx:∀x∈X.xs,tG x=true):∀(k:Nat)(sz:List Int)(fr:List Bool)(r:List Int),fr.length=X.xs.length->(∀v∈sz,inR v)->X.runI k sz fr=some r->∀v∈r,inR v
 |0,sz,fr,r,_,_,h=>by simp [Fx.runI]at h
 |k+1,sz,fr,r,hl,hs,h=>by
  unfold Fx.runI at h
  split at h
  ·cases h;exact hs
  ·refine B9 X hx k _ _ r ?_ (B7 _ _ (Gu X fr _ hx hl) hs) h
   have:∀(is:List Int)(l:List Bool),(pz is l).length=l.length:=by
    intro is
    induction is with
    |nil=>intro l;rfl
    |cons i is ih=>intro l;show(pz is (l.set i.toNat true)).length=_;rw [ih,List.length_set]
   rw [this];exact hl
theorem IB(hx:∀x∈xs,tG x=true)(gap inner:Int):∀v∈flx xs gap inner,inR v:=by
 have hh:∀v∈xs.map hyp,inR v:=fun v hv=>by
  obtain⟨x,ha,rfl⟩:=List.mem_map.1 hv
  exact Iu (hx x ha)
 unfold flx
 split
 ·cases hr:(Fx.of xs gap inner).runI 13 (xs.map hyp) (xs.map (mq (CT xs gap inner)))with
  |none=>intro v hv;cases hv
  |some r=>exact B9 (Fx.of xs gap inner) hx 13 _ _ r (by rw [zql];rfl) hh hr
 ·exact hh
theorem lO{n:Int}(h:inR n):rng n 0 1048576=true:=by
 unfold inR at h
 simp only [rng,zqs,zqp];exact h
theorem vO(h:er xs=true):(∀x∈xs,tG x=true)/\xs.length<=12:=by
 simp only [er,zqs,zqf,zqp]at h
 exact⟨h.1,by omega⟩
theorem Ic(h:er xs=true)(gap room:Int)(wr:Bool)(inner:Int):∀v∈lsz xs gap room wr inner,inR v:=fun v hv=>by
 unfold lsz at hv
 obtain⟨l,_,hm⟩:=List.mem_flatMap.1 hv
 exact IB (fun x hx=>(vO h).1 x (CG hx)) gap inner v hm
theorem G9{zs:List Int}(h:∀v∈zs,inR v)(i:Int):inR (elZ zs i):=by
 unfold elZ
 split
 ·cases hx:zs[i.toNat]? with
  |none=>exact⟨Int.le_refl 0,by decide⟩
  |some v=>exact h v (zqd hx)
 ·exact⟨Int.le_refl 0,by decide⟩
variable {I:List ag}
theorem I5{ZZ:List Int}(hI:er I=true)(hZ:∀v∈ZZ,inR v){l:List Int}(hl:∀i∈l,0<=i/\i<(I.length:Int))(hll:l.length<=12){gap inner:Int}(hg:inR gap)(hin:inR inner):al5 (lit I l) (l.map (elZ ZZ)) gap inner=true:=by
 have e:=yz hl
 simp only [al5,zqs,zqf,zqp]
 refine⟨fun s hs=> ?_,?_,by rw [zql,e],lO hg,lO hin⟩
 ·obtain⟨i,_,rfl⟩:=List.mem_map.1 hs
  exact lO (G9 hZ i)
 ·simp only [er,zqs,zqf,zqp]
  exact⟨fun x hx=>(vO hI).1 x (CG hx),by rw [e];omega⟩
theorem mI(s:az)(n:Int):inR (tak s n):=by unfold tak;split<;>exact wt _
theorem CU(s:ak)(w:Bool):inR (gu s w):=by unfold gu;split<;>exact wt _
theorem Dr{p:Pl}(hI:er I=true):∀l∈nj p I,al5 (lit I l) (l.map (elZ (pv p I))) (DB p) (Dz p I)=true:=fun l hl=>by
 unfold nj at hl
 exact I5 hI (Ic hI _ _ _ _) (fun i hi=>vq hl hi) (Nat.le_trans (jW hl) (vO hI).2) (CU _ _) (mI _ _)
theorem zk(v:dy)(base:Int):ud v base= -1\/inR (ud v base):=by
 unfold ud;split
 ·exact .inl rfl
 ·exact .inr (wt _)
theorem I6(a b:Int):inR (adE a b):=by unfold adE;exact wt _
theorem Iz(s:ak)(w:Bool):inR (uA s w):=by unfold uA;split<;>exact I6 _ _
theorem Ie(s:ak)(w:Bool)(base:Int):inR (Cz s w base):=by
 have h1:=zk (if w then s.minWidth else s.minHeight) base
 have h2:=Iz s w
 show inR (if uA s w<orl (ud (if w then s.minWidth else s.minHeight) base) 0 then orl (ud (if w then s.minWidth else s.minHeight) base) 0 else uA s w)
 generalize ud (if w then s.minWidth else s.minHeight) base=a at *
 generalize uA s w=b at *
 unfold orl inR at *
 by_cases ha:a= -1
 ·rw [if_pos ha];split<;>omega
 ·rw [if_neg ha];split<;>omega
theorem Ia(s:bh)(sd:Int)(rtl:Bool)(base:Int):rng (pT s sd rtl base) (-1048576) 1048576=true:=by
 have:=HK (GO (rh s sd rtl) base)
 unfold pT
 split
 ·rfl
 ·simp only [rng,zqs,zqp];exact this
theorem H3(s:ak)(w:Bool)(o:Int):s9 s w o= -1\/inR (s9 s w o):=by
 unfold s9;split
 ·exact .inl rfl
 ·split<;>exact .inr (wt _)
def Hp(b:km):Prop:=inR b.wide/\inR b.high/\inR b.base
theorem IZ{bx:Bx}{kid:Int}(hb:∀w h st,Hp (bx kid w h st).1)(p:Pl)(rtl:Bool)(ns:List af)(st:St):inR (xN bx p rtl ns kid st).1:=by
 unfold xN
 split
 ·rename_i hn
  show inR (EY p (kst ns kid) rtl)
  have h1:=zk (kst ns kid).basis (knS p.al)
  have h2:=zk (if p.row then(kst ns kid).width else(kst ns kid).height) (knS p.al)
  have h3:=H3 (kst ns kid) p.row (kcX p (kst ns kid) rtl).n
  unfold EY at hn⊢
  split
  ·rename_i h;exact h1.resolve_left h
  ·rename_i h
   rw [if_neg h]at hn
   split
   ·rename_i h';exact h2.resolve_left h'
   ·rename_i h'
    rw [if_neg h']at hn
    split
    ·rename_i h''
     rw [if_pos h'']at hn
     exact h3.resolve_left hn
    ·rename_i h''
     rw [if_neg h'']at hn
     exact absurd rfl hn
 ·show inR (alB p.row (uL bx p.row kid _ _ st).1)
  unfold alB uL
  split
  ·exact(hb _ _ _).1
  ·exact(hb _ _ _).2.1
theorem FE{bx:Bx}(p:Pl)(rtl:Bool)(ns:List af):∀(ks:List Int)(st:St),(∀k∈ks,∀w h st,Hp (bx k w h st).1)->(∀k∈ks,rng (kst ns k).grow 0 1000=true/\rng (kst ns k).shrink 0 1000=true)->∀x∈(k9 bx p rtl ns ks st).1,tG x=true
 | [],st,_,_,x,hx=>by simp [k9]at hx
 |k::r,st,hb,hg,x,hx=>by
  simp only [k9,List.mem_cons]at hx
  rcases hx with rfl|hx
  ·have h1:=IZ (hb k (List.mem_cons_self ..)) p rtl ns st
   have h2:=hg k (List.mem_cons_self ..)
   have h3:=zk (if p.row then(kst ns k).maxWidth else(kst ns k).maxHeight) (knS p.al)
   have h4:rng (Dy (kst ns k) p.row (knS p.al)) (-1) 1048576=true:=by
    unfold Dy inR at *
    simp only [rng,zqs,zqp]
    rcases h3 with h3|h3<;>omega
   simp only [tG,Ip,zC,sdB,lO h1,lO (Ie _ _ _),h4,h2.1,h2.2,Ia,Bool.and_self]
  ·exact FE p rtl ns r _ (fun k hk=>hb k (List.mem_cons_of_mem _ hk)) (fun k hk=>hg k (List.mem_cons_of_mem _ hk)) x hx
theorem JD(bx:Bx)(ns:List af)(rtl:Bool)(n:Int)(w h:az)(st:St):Hp (yw bx ns rtl n w h st).1:=by
 unfold yw
 split
 ·exact⟨mI _ _,mI _ _,mI _ _⟩
 ·split
  ·exact⟨mI _ _,mI _ _,mI _ _⟩
  ·exact⟨mI _ _,mI _ _,wt _⟩
theorem JR(ns:List af)(rtl:Bool):∀(f:Nat)(n:Int)(w h:az)(st:St),Hp (uI false ns rtl f n w h st).1
 |0,_,_,_,_=>(⟨⟨Int.le_refl 0,by decide⟩,⟨Int.le_refl 0,by decide⟩,⟨Int.le_refl 0,by decide⟩⟩:Hp ⟨0,0,0,[]⟩)
 |f+1,n,w,h,st=>by
  show Hp (kpF false rtl (yw (uI false ns rtl f) ns rtl) n w h st).1
  unfold kpF
  rw [if_pos rfl]
  exact JD ..
theorem C2{a b:Int}(h0:0<b)(h1: -4611686018427387904<=a)(h2:a<=4611686018427387904):b*fdv a b<=a/\a<b*fdv a b+b:=by
 have e:=Int.mul_tdiv_add_tmod a b
 have hq: -4611686018427387904<=a.tdiv b/\a.tdiv b<=4611686018427387904:=by
  have h3:=Int.natAbs_tdiv_le_natAbs a b
  omega
 have m1: -b<a.tmod b:=by have:=Int.lt_tmod_of_pos a h0;omega
 have m2:a.tmod b<b:=Int.tmod_lt_of_pos a h0
 have w1:wrap64 (a.tdiv b)=a.tdiv b:=by unfold wrap64;omega
 have w2:wrap64 (a.tdiv b-1)=a.tdiv b-1:=by unfold wrap64;omega
 unfold fdv
 rw [if_neg (by omega),w1,w2]
 split
 ·rw [Int.mul_sub,Int.mul_one];omega
 ·by_cases hm:0<=a.tmod b
  ·omega
  ·omega
theorem HH{n L k:Int}(hL:L<=64)(hn:0<=n)(hn2:n<=1048576)(hk:0<=k)(hk2:k<L):0<=wrap64 (fdv (wrap64 (n*wrap64 (k+1))) L-fdv (wrap64 (n*k)) L)/\wrap64 (fdv (wrap64 (n*wrap64 (k+1))) L-fdv (wrap64 (n*k)) L)<=n:=by
 have e1:wrap64 (k+1)=k+1:=aq _ (by omega)
 have m0:0<=n*k:=Int.mul_nonneg hn hk
 have m1:n*k<=1048576*64:=Int.mul_le_mul hn2 (by omega) hk (by decide)
 have ee:n*(k+1)=n*k+n:=by rw [Int.mul_add,Int.mul_one]
 rw [e1,ee]
 generalize n*k=m at *
 rw [aq (m+n) (by omega),aq m (by omega)]
 obtain⟨c1,c2⟩:=C2 (a:=m+n) (b:=L) (by omega) (by omega) (by omega)
 obtain⟨d1,d2⟩:=C2 (a:=m) (b:=L) (by omega) (by omega) (by omega)
 generalize fdv (m+n) L=q1 at *
 generalize fdv m L=q0 at *
 have hD:L*(q1-q0)=L*q1-L*q0:=Int.mul_sub ..
 have v1: -1<q1-q0:=Int.lt_of_mul_lt_mul_left (a:=L) (by rw [hD,Int.mul_neg,Int.mul_one];omega) (by omega)
 have g1:n<=L*n:=by
  have:=Int.mul_le_mul_of_nonneg_right (show(1:Int)<=L by omega) hn
  omega
 have v2:q1-q0<n+1:=Int.lt_of_mul_lt_mul_left (a:=L) (by rw [hD,Int.mul_add,Int.mul_one];omega) (by omega)
 rw [aq (q1-q0) (by omega)]
 omega
theorem zm{n L:Int}(hL:L<=64)(hn:0<=n)(hn2:n<=1048576):∀(j:Nat)(s:Int),0<=s->s+(j:Int)<=L->∀v∈shG n L s (List.replicate j 1),0<=v/\v<=n
 |0,s,_,_,v,hv=>by simp [shG]at hv
 |j+1,s,h0,h1,v,hv=>by
  rw [List.replicate_succ]at hv
  simp only [shG,List.mem_cons]at hv
  rcases hv with rfl|hv
  ·exact HH hL hn hn2 h0 (by omega)
  ·rw [aq (s+1) (by omega)]at hv
   exact zm hL hn hn2 j (s+1) (by omega) (by omega) v hv
theorem wI:∀(m:Nat)(a:Int),0<=a->a+(m:Int)<=1000->pr a (List.replicate m 1)=a+(m:Int)
 |0,a,_,_=>by simp [pr]
 |m+1,a,h0,h1=>by
  rw [List.replicate_succ]
  simp only [pr]
  rw [aq (a+1) (by omega),wI m (a+1) (by omega) (by omega)]
  omega
theorem IE{n many:Int}(hn:0<=n)(hn2:n<=1048576):∀v∈evn n many,0<=v/\v<=n:=by
 have hm:=p8 many
 have e:sg n=n:=by unfold sg bro;rw [if_neg (by omega)];split<;>omega
 unfold evn shr
 rw [if_pos (Cu _ hm),e,wI _ 0 (Int.le_refl 0) (by omega)]
 exact zm (by omega) hn hn2 _ 0 (Int.le_refl 0) (Int.le_refl _)
theorem HJ{c:Int}(h:inR c):sg c=c:=by unfold inR at h;unfold sg bro;rw [if_neg (by omega)];split<;>omega
theorem BS:∀(cs:List Int),(∀c∈cs,inR c)->0<=cs.sum/\cs.sum<=1048576*(cs.length:Int)/\∀c∈cs,c<=cs.sum
 | [],_=>by simp
 |c::r,h=>by
  obtain⟨h1,h2,h3⟩:=BS r fun x hx=>h x (List.mem_cons_of_mem _ hx)
  have hc:=h c (List.mem_cons_self ..)
  unfold inR at hc
  simp only [List.sum_cons,zqx]
  refine⟨by omega,by omega,fun x hx=> ?_⟩
  rcases List.mem_cons.1 hx with rfl|hx
  ·omega
  ·have:=h3 x hx;omega
theorem ze:∀(cs:List Int)(a:Int),(∀c∈cs,inR c)->0<=a->a+1048576*(cs.length:Int)<=1099511627776->AD a cs=a+cs.sum
 | [],a,_,_,_=>by simp [AD]
 |c::r,a,h,h0,h1=>by
  have hc:=h c (List.mem_cons_self ..)
  have hs:=HJ hc
  unfold inR at hc
  simp only [zqx]at h1
  simp only [AD,List.sum_cons]
  rw [hs,aq (a+c) (by omega),ze r (a+c) (fun x hx=>h x (List.mem_cons_of_mem _ hx)) (by omega) (by omega)]
  omega
variable {cs:List Int}
theorem IJ{gap:Int}(h:∀c∈cs,inR c)(hl:cs.length<=12)(hg:inR gap):0<=crt cs gap/\crt cs gap<=33554432/\∀c∈cs,c<=crt cs gap:=by
 unfold crt
 split
 ·rename_i e;subst e;exact⟨Int.le_refl 0,by decide,fun c hc=>by cases hc⟩
 ·rename_i e
  have hp:0<cs.length:=List.length_pos_iff.2 e
  obtain⟨s1,s2,s3⟩:=BS cs h
  have m0:0<=gap*((cs.length:Int)-1):=Int.mul_nonneg hg.1 (by omega)
  have m1:gap*((cs.length:Int)-1)<=1048576*12:=Int.mul_le_mul hg.2 (by omega) (by omega) (by decide)
  rw [ze cs 0 h (Int.le_refl 0) (by omega)]
  generalize gap*((cs.length:Int)-1)=m at *
  rw [aq m (by omega),aq (0+cs.sum+m) (by omega)]
  exact⟨by omega,by omega,fun c hc=>by have:=s3 c hc;omega⟩
theorem HC{gap inner ct:Int}(h:∀c∈cs,inR c)(hl:cs.length<=12)(hg:inR gap)(hi:inR inner):∀v∈xS cs gap inner ct,inR v:=by
 unfold xS
 split
 ·rename_i hc
  obtain⟨_,_,hf⟩:=hc
  obtain⟨c1,c2,c3⟩:=IJ h hl hg
  unfold inR at hi
  rw [aq (inner-crt cs gap) (by omega)]at hf⊢
  intro v hv
  obtain⟨q,hq,rfl⟩:=List.mem_map.1 hv
  obtain⟨a,b⟩:=q
  have ha:=List.of_mem_zip hq
  have h1:=h a ha.1
  have h2:=c3 a ha.1
  have h3:=IE (by omega) (by omega) b ha.2
  unfold inR at h1⊢
  dsimp only
  rw [aq (a+b) (by omega)]
  omega
 ·exact h
theorem IM(xs:List ar):inR (cro xs):=by
 unfold cro;split
 ·exact⟨Int.le_refl 0,by decide⟩
 ·exact wt _
theorem IK{p:Pl}(hac:p.ac.mode=3->inR p.ac.n){ls:List (List Int)}(hl:ls.length<=12)(S:List ar):∀v∈yM p ls S,inR v:=by
 have h1:∀v∈ls.map (Jp p S),inR v:=fun v hv=>by
  obtain⟨l,_,rfl⟩:=List.mem_map.1 hv
  unfold Jp;split
  ·rename_i h;exact hac h.2
  ·exact IM _
 unfold yM
 split
 ·rename_i h;exact HC h1 (by rw [zql];exact hl) (CU _ _) (hac h.2)
 ·exact h1
theorem Ds{p:Pl}(hI:er I=true)(hac:p.ac.mode=3->inR p.ac.n)(S:List ar):acr (yM p (nj p I) S) (uz p) (Aw p (yM p (nj p I) S))=true:=by
 have hl:(nj p I).length<=12:=Nat.le_trans (ni ..) (vO hI).2
 have ha:=wq p (nj p I) S (by omega)
 simp only [acr,zqs,zqf,zqp]
 exact⟨fun c hc=>lO (IK hac hl S c hc),by rw [ha];omega,lO (CU _ _),lO (mI _ _)⟩
theorem CS(s:az)(z:Int):(qN s z).mode=3->inR (qN s z).n:=by
 unfold qN
 split
 ·rename_i h;intro h3;rw [h]at h3;cases h3
 ·exact fun _=>wt _
theorem H5(ns:List af)(n:Int)(w h:az):(plO ns n w h).ac.mode=3->inR (plO ns n w h).ac.n:=by
 show(if jS (kst ns n)then inH (kst ns n) h else inW (kst ns n) w).mode=3->inR (if jS (kst ns n)then inH (kst ns n) h else inW (kst ns n) w).n
 split
 ·exact CS _ _
 ·exact CS _ _
variable {ns:List af}
theorem Ik(ht:eV ns=true){k:Int}(hk:isN ns k=true):BU (kst ns k)=true:=by
 obtain⟨k1,k2,y,hy⟩:=bD hk
 rw [jg hy]
 simp only [eV,zqs]at ht
 have:=(ka ns ns 0).1 ht.2 _ y hy
 simp only [fJ,zqs]at this
 exact this.1
theorem zW(bx:Bx)(p:Pl)(rtl:Bool)(ns:List af):∀(ks:List Int)(st:St),(k9 bx p rtl ns ks st).1.length=ks.length
 | [],_=>rfl
 |k::r,st=>by simp only [k9,zqx,zW bx p rtl ns r]
theorem Im(ht:eV ns=true){bx:Bx}(hb:∀k w h st,Hp (bx k w h st).1)(p:Pl)(rtl:Bool){ks:List Int}(hk:∀k∈ks,isN ns k=true)(hkl:ks.length<=12)(st:St):er (k9 bx p rtl ns ks st).1=true:=by
 simp only [er,zqs,zqf,zqp]
 refine⟨FE p rtl ns ks st (fun k _=>hb k) fun k ha=> ?_,by rw [zW];omega⟩
 have:=Ik ht (hk k ha)
 simp only [BU,stN,zqs]at this
 exact⟨this.1.2.2.2.2.2.2.2.1,this.1.2.2.2.2.2.2.2.2.1⟩
def cN:Nat->Nat
 |0=>0
 |f+1=>40*cN f+1
theorem GM{V:LLA}{rtl keeps:Bool}{bx:Bx}{c L:Nat}{n:Int}(hk:∀kid∈flK ns n,yX V rtl keeps bx c L kid)(hkl:(flK ns n).length<20)(w h:az)(st:St):(yw bx ns rtl n w h st).2.1.length<=st.1.length+(40*c+1)/\(yw bx ns rtl n w h st).2.2.length<=st.2.length+(40*c+1):=by
 unfold yw
 split
 ·dsimp only
  rw [zqe,zqm]
  omega
 ·split
  ·dsimp only;omega
  ·unfold Et
   dsimp only
   rw [show(plO ns n w h).kids=flK ns n from rfl]
   have h1:=vQ (V:=V) (rtl:=rtl) (keeps:=keeps) (L:=L) (plO ns n w h) ns (flK ns n) st hk
   obtain⟨ra,hc⟩:=nmE (k9 bx (plO ns n w h) rtl ns (flK ns n) st)
   rw [<-hc]at h1⊢
   have h2:=yf (V:=V) (rtl:=rtl) (keeps:=keeps) (L:=L) (plO ns n w h) ns ((flK ns n).zip (pv (plO ns n w h) ra.1)) ra.2 fun k ha=>hk k.1 (by obtain⟨a,b⟩:=k;exact(List.of_mem_zip ha).1)
   rw [zqB,nv,h1.1,Nat.min_self]at h2
   have hb:(flK ns n).length*c<=20*c:=Nat.mul_le_mul_right c (by omega)
   have h3:=h1.2
   have h4:=h2.2
   omega
theorem F5(ns:List af)(rtl:Bool)(f:Nat)(n:Int)(w h:az)(st:St):uI false ns rtl (f+1) n w h st=yw (uI false ns rtl f) ns rtl n w h st:=by
 show kpF false rtl (yw (uI false ns rtl f) ns rtl) n w h st=_
 unfold kpF
 rw [if_pos rfl]
theorem rz{ns:List af}(hl:ns.length<=1048576)(hs:∀y∈ns,af.small y)(ht:eV ns=true)(rtl:Bool):∀(f:Nat)(n:Int),isN ns n=true->5<=wo ns n+(f:Int)->yX (vwA af.ac ns) rtl false (uI false ns rtl f) (cN f) 1073741824 n
 |0,n,hn,hd=>by have:=ma ht hn;omega
 |f+1,n,hn,hd=>by
  obtain⟨n1,n2,x,hx⟩:=bD hn
  have hi:=uO ht n1 hx
  have hf:=jB ht n1 hx
  have hb:∀ha∈flK ns n,yX (vwA af.ac ns) rtl false (uI false ns rtl f) (cN f) 1073741824 ha:=fun ha hk=>by
   have hm:=sm hx ha hk
   have:=CM ht n1 hx ha hm
   exact rz hl hs ht rtl f ha (hf ha hm) (by omega)
  have he:(flK ns n).length<=12:=by rw [sn hx,lA];exact Nat.le_trans (List.length_filter_le _ _) hi
  have hh:∀k∈flK ns n,isN ns k=true:=fun k h=>hf k (sm hx k h)
  refine⟨fun w h st=>by rw [F5];exact GM hb (by omega) w h st,fun w0 w1 h0 h1 st hm hq=> ?_⟩
  rw [F5]
  have hI:=Im ht (JR ns rtl f) (plO ns n ⟨w0,w1⟩ ⟨h0,h1⟩) rtl hh he st
  refine sM _ rtl n _ _ _ _ _ w0 w1 h0 h1 (bZ _) (cj _) (bZ _) (cj _) (sK ns hl hs ht rtl false (uI false ns rtl f) (cN f) 1073741824 (Nat.le_refl _) n x hn hx w0 w1 h0 h1 hb st hm hq (fun I hc l hj=> ?_) (fun I ho hc cs hg=> ?_))
  ·subst hc;exact Dr hI l hj
  ·have e:I=(k9 (uI false ns rtl f) (plO ns n ⟨w0,w1⟩ ⟨h0,h1⟩) rtl ns (flK ns n) st).1:=by rw [<-hc]
   rw [hg]
   exact Ds (by rw [e];exact hI) (H5 ns n _ _) _
theorem GB(hl:ns.length<=1048576)(hs:∀y∈ns,af.small y)(ht:eV ns=true)(rtl:Bool){kid:Int}(hk:isN ns kid=true):yX (vwA af.ac ns) rtl false (uI false ns rtl 4) 65641 1073741824 kid:=
 rz hl hs ht rtl 4 kid hk (by have:=ma ht hk;omega)
def st0:St:=([],[])
theorem SM0:SM st0.1=[]:=rfl
theorem SA0:SA st0.2=[]:=rfl
theorem Io(ns:List af)(rtl:Bool)(p:Pl)(ks:List Int)(st:St):(k9 (uI false ns rtl 4) p rtl ns ks st).1=xu (tX ns rtl 4) p rtl ns ks:=vR (wv ns rtl 4) p rtl ns ks st
theorem Jy(ns:List af)(rtl:Bool)(p:Pl)(ks:List (Int×Int))(st:St):(s8 (uI false ns rtl 4) p rtl ns ks st).1=AG (tX ns rtl 4) p rtl ns ks:=va (wv ns rtl 4) p rtl ns ks st
theorem rd(ns:List af)(hl:ns.length<=1048576)(hs:∀y∈ns,af.small y)(n a b c d:Int)(rtl:Bool):PC0 22 [.agg [.view (vwA af.ac ns)],ai n,agP ⟨a,b⟩,agP ⟨c,d⟩,abl rtl] (.t (.c (.view (vw ar.c (kdO ns n ⟨a,b⟩ ⟨c,d⟩ rtl))))):=by
 have cO:=wP ns hl hs n a b c d
 unfold kdO
 cases hO:Bu ns n ⟨a,b⟩ ⟨c,d⟩
 case false=>
  rw [hO]at cO
  simp only [if_true]
  rw [show vw ar.c ([]:List ar)=[]from rfl]
  obtain⟨V,hV⟩:=nmE (vwA af.ac ns)
  rw [<-hV]at cO⊢
  refine mh (t:=96) (k:=7) (V:=[]) ?_ (fun x hx=>by cases hx) (fun x hx=>by cases hx)
  refine fP ([(5,.hand)]) ([]) (c:=aK f22) ay func22 (by kernel_rfl) (by kernel_rfl) (by rfl) (by kernel_rfl) fun g hJ hd F hw hC hg hF=> ?_
  cbv
  repeat'(refine ad hg cO ?_;cbv)
  exact bR hF rfl rfl
 obtain⟨hT,hI,n1,n2,x,hx,hE,hD⟩:=zV hO
 rw [hO]at cO
 simp only [Bool.true_eq_false,if_false]
 obtain⟨hM,hy⟩:=z9 hx hE hD
 obtain⟨p,hp⟩:=nmE (plO ns n ⟨a,b⟩ ⟨c,d⟩)
 have hb:p.kids=flK ns n:=by rw [hp];rfl
 have cp:=uR ns hl hs hT n x n1 n2 hx hE hD a b c d p hp
 have hB:∀hA∈p.kids,yX (vwA af.ac ns) rtl false (uI false ns rtl 4) 65641 1073741824 hA:=fun hA h=>GB hl hs hT rtl (hy hA (by rw [<-hb];exact h))
 have cB:=lj ns hl rtl false (uI false ns rtl 4) 65641 1073741824 n p (by rw [hb];omega) (by rw [hb];exact hy) hB st0 (by decide) (by decide)
 have ha:=vQ p ns p.kids st0 hB
 rw [Io]at ha
 rw [Io,SM0,SA0]at cB
 rw [<-hp,<-hb]
 obtain⟨hc,hi⟩:=nmE ((k9 (uI false ns rtl 4) p rtl ns p.kids st0).2)
 rw [<-hi]at cB ha
 have hh:p.kids.length<=12:=by rw [hb];exact hM
 have hv:p.kids.length*65641<=12*65641:=Nat.mul_le_mul_right _ hh
 have g1:hc.1.length+20*65641<=1073741824:=by have:=ha.2.1;simp only [st0,List.length_nil]at this;omega
 have g2:hc.2.length+20*65641<=1073741824:=by have:=ha.2.2;simp only [st0,List.length_nil]at this;omega
 have hH:=bZ hc.1
 have hG:=cj hc.2
 have ht:(xu (tX ns rtl 4) p rtl ns p.kids).length<=1048576:=by rw [om,hb];omega
 obtain⟨I,hr⟩:=nmE (xu (tX ns rtl 4) p rtl ns p.kids)
 have he:I.length=p.kids.length:=by rw [hr,om]
 rw [<-hr]at cB ht⊢
 have cS:=fun K=>lh n p.s p.row p.al p.ac (knS p.wide) K I ht
 change∀K,PC0 _ _ (.t (.c (.view (vw ah (pv p I)))))at cS
 obtain⟨zs,hz⟩:=nmE (pv p I)
 rw [<-hz]at cS⊢
 have cD:=ja ns hl rtl false (uI false ns rtl 4) 65641 1073741824 n p zs (by omega) (by rw [hz,nv,he]) (by rw [hb];exact hy) hB hc g1 g2
 rw [Jy]at cD
 obtain⟨hn,hj⟩:=nmE ((s8 (uI false ns rtl 4) p rtl ns (p.kids.zip zs) hc).2)
 rw [<-hj]at cD
 have hP:=bZ hn.1
 have hN:=cj hn.2
 obtain⟨M2,hm⟩:=nmE (SM hc.1);(try rw [<-hm]at cB);(try rw [<-hm]at cD);(try rw [<-hm]at hH)
 obtain⟨A2,hk⟩:=nmE (SA hc.2);(try rw [<-hk]at cB);(try rw [<-hk]at cD);(try rw [<-hk]at hG)
 obtain⟨M3,hu⟩:=nmE (SM hn.1);(try rw [<-hu]at cD);(try rw [<-hu]at hP)
 obtain⟨A3,ho⟩:=nmE (SA hn.2);(try rw [<-ho]at cD);(try rw [<-ho]at hN)
 obtain⟨X,hX⟩:=nmE (vw ar.c (AG (tX ns rtl 4) p rtl ns (p.kids.zip zs)));(try rw [<-hX]at cD);(try rw [<-hX]at⊢)
 obtain⟨Z,hZ⟩:=nmE (vw ah zs);(try rw [<-hZ]at cS);(try rw [<-hZ]at cD)
 obtain⟨IV,hq⟩:=nmE (vw ag.c I);(try rw [<-hq]at cB);(try rw [<-hq]at cS)
 obtain⟨K,hK⟩:=nmE (vw ah p.kids);(try rw [<-hK]at cp);(try rw [<-hK]at cB);(try rw [<-hK]at cD)
 replace cS:=cS K
 obtain⟨KW,hf⟩:=nmE (knS p.wide);(try rw [<-hf]at cp);(try rw [<-hf]at cB);(try rw [<-hf]at cS);(try rw [<-hf]at cD)
 obtain⟨V,hV⟩:=nmE (vwA af.ac ns)
 rw [<-hV]at cO cp cB cD⊢
 clear hK hX hZ hq hp hb hm hk hu ho hi hj hf hV ht he hr hB ha g1 g2 hz hv hh
 obtain⟨s,row,pw,ph,iw,ih,al,ac,ks⟩:=p
 refine fP ([(5,.hand)]) ([]) (c:=aK f22) ay func22 (by kernel_rfl) (by kernel_rfl) (by rfl) (by kernel_rfl) fun g hJ hd F hw hC hg hF=> ?_
 cbv
 repeat'(refine ad hg cO ?_;cbv)
 (repeat'(refine ad hg cp ?_;cbv))
 refine fi hg hC ay [0,1,2,3,4] (.op 5 [6] (.op 7 [8] .done .none) .none) (by kernel_rfl) (by kernel_rfl) (S:=Unit) (fun _=>True) (fun _=>[(10,.v X)]) (fun _=>[]) (fun BL hL=> ?_) (fun _ _=> ?_)
 ·cbv
  ((repeat'(first|exact trivial|exact rfl|refine And.intro ?_ ?_)))
  refine Hf rfl hg 5 rfl [.bx 32 1 [.view V],.bx 34 2 [.J a,.J b],.bx 34 2 [.J c,.J d],.bx 74 5 [.view V,.B rtl,.B false,.own 5,.own 6],.bx 66 68 (nwL n s row al ac KW (.view K)),.rw ⟨146,10,[]⟩,.rw ⟨153,6,[]⟩] [.c (.ptr 3 0 0),.agg (nwL n s row al ac KW (.view K))] [some 0,some 1,some 2,some 3,some 4,none,none] (wkM [some 0,some 1,some 2,some 3,some 4,none,none] ⟨⟨rfl,.inl ⟨rfl,rfl⟩,trivial⟩,trivial⟩ ⟨.inr (wqE rfl rfl),.inr (wqE rfl rfl),.inr (wqE rfl rfl),.inr ⟨_,_,rfl,rfl,rfl,rfl,.inr ⟨zr5,trivial⟩⟩,.inr (wqE rfl rfl),.inr ⟨_,rfl,rfl⟩,.inr ⟨_,rfl,rfl⟩,trivial⟩ (by decide) ⟨.inr rfl,.inr rfl,.inr rfl,.inr rfl,.inr rfl,trivial⟩ ⟨.inr ⟨_,rfl⟩,.inr ⟨_,rfl⟩,.inr ⟨_,rfl⟩,.inr ⟨_,rfl⟩,.inr ⟨_,rfl⟩,trivial⟩) ?_
  (repeat'(first|exact trivial|exact rfl|((first|refine jk rfl hg 3 5 6 cB rfl rfl rfl (by decide) rfl rfl rfl ⟨rfl,.inl ⟨rfl,rfl⟩,trivial⟩ rfl ?_|refine aa hg cS ?_|refine jk rfl hg 3 7 8 cD rfl rfl rfl (by decide) rfl hH hG ⟨rfl,.inl ⟨rfl,rfl⟩,rfl,trivial⟩ rfl ?_);cbv)|exact hL () trivial _ _ (Wk.weak (wkG [] zr1 trivial (by decide) aD))|refine And.intro ?_ ?_))
 cbv
 exact fy hF rfl ⟨rfl,rfl⟩
end Go.Proofs.YtkicjdeddpihaaaGreat
