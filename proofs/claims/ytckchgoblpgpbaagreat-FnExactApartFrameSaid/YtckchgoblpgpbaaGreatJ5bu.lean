/- The reference's KidBase, KidItems, KidSizes. -/
import Derived.Test.YtckchgoblpgpbaaGreatJ5bt
set_option linter.unusedVariables false
set_option linter.unusedSimpArgs false
set_option maxHeartbeats 32000000
namespace Go.Proofs.YtckchgoblpgpbaaGreat
open Go.ChangeShapes Go.WideShapes Go.ChangeAt Go.RowKit Am Go.Proofs.Tryz
set_option maxRecDepth 100000
theorem EP(qs:List km)(x:km):SA (qs++[x])=SA qs++[lc (km.c x)]:=bv _ _ _
theorem vc{α:Type}(c:α->Array Value):vw c ([]:List α)=[]:=rfl
theorem rl(ns:List af)(hl:ns.length<=1048576)(hs:∀y∈ns,af.small y)(ht:eo ns=true)(rtl keeps:Bool)(bx:Bx)(c L:Nat)(hL:L<=1073741824)(n:Int)(x:af)(h1:isN ns n=true)(hx:ns[(n-1).toNat]? =some x)(w0 w1 h0' h1':Int)(hbx:∀kid∈flK ns n,xx (vwA af.ac ns) rtl keeps bx c L kid)(st:St)(hm:st.1.length+(40*c+1)<=L)(hq:st.2.length+(40*c+1)<=L)
  (hal:∀I,I=(lN bx (plO ns n ⟨w0,w1⟩ ⟨h0',h1'⟩) rtl ns (flK ns n) st).1->∀l∈mL (plO ns n ⟨w0,w1⟩ ⟨h0',h1'⟩) I,al5 (lit I l) (l.map (elZ (rj (plO ns n ⟨w0,w1⟩ ⟨h0',h1'⟩) I))) (BD (plO ns n ⟨w0,w1⟩ ⟨h0',h1'⟩)) (BC (plO ns n ⟨w0,w1⟩ ⟨h0',h1'⟩) I)=true)
  (hac:∀I st1,(I,st1)=lN bx (plO ns n ⟨w0,w1⟩ ⟨h0',h1'⟩) rtl ns (flK ns n) st->∀cs,cs=xk (plO ns n ⟨w0,w1⟩ ⟨h0',h1'⟩) (mL (plO ns n ⟨w0,w1⟩ ⟨h0',h1'⟩) I) (tF bx (plO ns n ⟨w0,w1⟩ ⟨h0',h1'⟩) rtl ns ((flK ns n).zip (rj (plO ns n ⟨w0,w1⟩ ⟨h0',h1'⟩) I)) st1).1->acr cs (sX (plO ns n ⟨w0,w1⟩ ⟨h0',h1'⟩)) (yI (plO ns n ⟨w0,w1⟩ ⟨h0',h1'⟩) cs)=true):
  SE prog 110 (sR (vwA af.ac ns) rtl keeps) (SM st.1) (SA st.2) [.c (.ptr 0 0 0),ai n,agP ⟨w0,w1⟩,agP ⟨h0',h1'⟩] (.t (.agg (ju.ac (wV bx ns rtl n ⟨w0,w1⟩ ⟨h0',h1'⟩ st).1))) (SM (wV bx ns rtl n ⟨w0,w1⟩ ⟨h0',h1'⟩ st).2.1) (SA (wV bx ns rtl n ⟨w0,w1⟩ ⟨h0',h1'⟩ st).2.2):=by
 obtain⟨n1,n2,_⟩:=bq h1
 have h0:=io ht n1 hx
 have h9:=wI ht n1 hx
 have h6:∀k∈flK ns n,isN ns k=true:=fun k h=>h0 k (uJ hx k h)
 have hY:flK ns n=gY (ix ns) (x.kids.filter (lY ns)):=yp hx
 have hU:(flK ns n).length<20:=by rw [hY,nf];exact Nat.lt_of_le_of_lt (List.length_filter_le _ _) (by omega)
 have cU:=tr ns n x hs ht hl n1 n2 hx (by omega) h0 w0 w1 h0' h1'
 rw [<-hY]at cU
 have cy:=bm ns n x n1 (by omega) hx (vwA af.ac ns) _ _ rfl rfl rfl
 have hW:kst ns n=x.style:=gU hx
 have h7:nod ns n=x:=Dc hx
 obtain⟨p,hp⟩:=nmE (plO ns n ⟨w0,w1⟩ ⟨h0',h1'⟩)
 have ha:PC0 147 [.agg [.view (vwA af.ac ns)],ai n,agP ⟨w0,w1⟩,agP ⟨h0',h1'⟩] (.t (.agg (nwL n p.s p.row p.al p.ac (knS p.wide) (.view (vw ak p.kids))))):=by
  rw [hp];unfold plO;rw [hW];exact cU
 clear cU
 have hb:p.kids=flK ns n:=by rw [hp];rfl
 have hP:p.s=x.style:=by rw [hp];exact hW
 unfold wV
 rw [h7,hW,<-hp]
 have cF:=fun(hkn:p.kids≠[])=>rq ns hl rtl keeps bx c L n p w0 w1 h0' h1' (by rw [hp];rfl) (by rw [hp];rfl) hkn (by rw [hb];exact hU) (by rw [hb];exact h6) (by rw [hb];exact hbx) st (by omega) (by omega) (by rw [hb,hp];exact hal _ rfl) (by rw [hb,hp];exact hac _ _ rfl)
 clear hal hac hbx
 obtain⟨V,hV⟩:=nmE (vwA af.ac ns)
 rw [<-hV]at cy ha⊢
 simp only [<-hV]at cF
 obtain⟨Kx,hH⟩:=nmE (vw ak x.kids)
 obtain⟨Rx,hE⟩:=nmE (vw aO.c x.table.rules)
 rw [<-hH,<-hE]at cy
 have h3:x.table.rules.length<=1048576:=(hs x (zqd hx)).2.1
 have hf:=fo x.style
 obtain⟨fe,hj⟩:=nmE (lw x.style)
 rw [<-hj]at hf
 obtain⟨fl,ft,fr,fb⟩:=fe
 have hh:=fi fl ft fr fb
 have hC:=fj fl ft fr fb
 obtain⟨B1,hr⟩:=nmE (adE fl fr)
 obtain⟨B2,hD⟩:=nmE (adE ft fb)
 change PC0 _ _ (.i (adE fl fr))at hh
 change PC0 _ _ (.i (adE ft fb))at hC
 rw [<-hr]at hh
 rw [<-hD]at hC
 obtain⟨M0,hw⟩:=nmE (SM st.1)
 obtain⟨A0,hc⟩:=nmE (SA st.2)
 have hk:aC M0=true:=by rw [hw];exact bU _
 have hQ:aC A0=true:=by rw [hc];exact bV _
 have kn:∀g:Gd,g=G0 prog 3 f110.ntmps->g .q .gtr (g .ln (vw ak p.kids)) 0=decide (p.kids≠[]):=fun g hg=>by
  rw [cu hg,bF hg,aQ]
  cases p.kids with
  |nil=>rfl
  |cons a b=>exact decide_eq_decide.2 ⟨fun _=>by simp,fun _=>by simp only [zqx];omega⟩
 obtain⟨K,hK⟩:=nmE (vw ak p.kids)
 rw [<-hK]at ha kn
 simp only [<-hK]at cF
 obtain⟨x0,x1,x2,x3,x4⟩:=x
 dsimp only at hP hj h3 hH hE hf cy⊢
 by_cases hG:x3=true
 case neg=>
  rw [if_neg hG]
  replace hG:x3=false:=by simpa using hG
  subst hG
  by_cases hkn:p.kids=[]
  case neg=>
   rw [if_neg (by rw [<-hb];exact hkn)]
   have cF:=cF hkn
   obtain⟨rr,h8⟩:=nmE (Cv bx p rtl ns st)
   rw [<-h8]at cF⊢
   rw [acE]at cF⊢
   have h4:=bU rr.2.1
   have hB:=bV rr.2.2
   rw [<-hw,<-hc]at cF⊢
   obtain⟨M2,hO⟩:=nmE (SM rr.2.1);(try rw [<-hO]at cF);(try rw [<-hO]at h4);(try rw [<-hO]at⊢)
   obtain⟨A2,hi⟩:=nmE (SA rr.2.2);(try rw [<-hi]at cF);(try rw [<-hi]at hB);(try rw [<-hi]at⊢)
   obtain⟨FR,hS⟩:=nmE (vw aM.c rr.1.frames);(try rw [<-hS]at cF);(try rw [<-hS]at⊢)
   obtain⟨KW,he⟩:=nmE (knS p.wide);(try rw [<-he]at ha);(try rw [<-he]at cF)
   clear he hS hO hi hw hc hK hp hb hP hj hr hD hV hH hE
   refine dl ([(9,.hand),(11,.hand)]) ([]) (c:=aJ f110) ay func110 (by kernel_rfl) (by kernel_rfl) (bl (by rfl)) (by kernel_rfl) (fun g hX hd F hJ hM hg hF=> ?_)
   have kn:=kn g hg
   rw [zqu hkn]at kn
   cbv
   ((repeat'((first|rw [kn]|refine ad hg cy ?_|refine ad hg hf ?_|refine aa hg ha ?_|refine iP rfl hg 0 1 2 cF rfl rfl rfl (by decide) rfl hk hQ ⟨rfl,.inl ⟨rfl,rfl⟩,.inl ⟨rfl,rfl⟩,.inl ⟨rfl,rfl⟩,trivial⟩ rfl ?_);cbv)))
   exact qP 9 10 hF rfl rfl rfl rfl rfl (by decide) rfl h4 hB
  rw [if_pos (by rw [<-hb];exact hkn)]
  dsimp only
  rw [acE]
  unfold zc
  dsimp only
  rw [<-hj]
  dsimp only
  rw [<-hr,<-hD,vc,<-hw,<-hc]
  obtain⟨WT,hA⟩:=nmE (wrap64 (0+B1))
  obtain⟨HT,hv⟩:=nmE (wrap64 (0+B2))
  rw [<-hA,<-hv]
  have hn:=dQ w0 w1 WT
  have ho:=dQ h0' h1' HT
  obtain⟨R1,hy⟩:=nmE (tak ⟨w0,w1⟩ WT);(try rw [<-hy]at hn);(try rw [<-hy]at⊢)
  obtain⟨R2,hz⟩:=nmE (tak ⟨h0',h1'⟩ HT);(try rw [<-hz]at ho);(try rw [<-hz]at⊢)
  obtain⟨KW,he⟩:=nmE (knS p.wide);(try rw [<-he]at ha)
  refine vr (t:=45) (k:=5) (V:=[]) (R:= .t (.agg [.J R1,.J R2,.J R2,.own 5])) ?_ (fun x hx=>by cases hx) (fun x hx=>by cases hx) rfl rfl rfl
  have t1:∀g:Gd,g=G0 prog 3 f110.ntmps->g .w .add .i64 0 B1=WT:=fun g hg=>by rw [aN hg,hA]
  have t2:∀g:Gd,g=G0 prog 3 f110.ntmps->g .w .add .i64 0 B2=HT:=fun g hg=>by rw [aN hg,hv]
  clear he hy hz hA hv hw hc hK hp hb hP hj hr hD hV hH hE cF
  refine dl ([(9,.hand),(11,.hand)]) ([]) (c:=aJ f110) ay func110 (by kernel_rfl) (by kernel_rfl) (bl (by rfl)) (by kernel_rfl) (fun g hX hd F hJ hM hg hF=> ?_)
  have kn:=kn g hg
  have t1:=t1 g hg
  have t2:=t2 g hg
  rw [zqt (Classical.not_not.2 hkn)]at kn
  cbv
  ((repeat'((first|rw [kn]|refine ad hg cy ?_|refine ad hg hf ?_|refine aa hg ha ?_);cbv)))
  refine dr hg hM ay [0,1,2,3,4,5,6,7,8,9,10,11] (.op 12 [13] (.op 14 [] (.op 15 [] .done .none) .none) (.op 14 [] (.op 12 [13] (.op 15 [] .done .none) .none) .none)) (by kernel_rfl) (by kernel_rfl) (S:=Unit) (fun _=>True) (fun _=>[(8,.p 5),(14,.p 6)]) (fun _=>[.bx 91 5 [.view V,.B rtl,.B keeps,.own 1,.own 2],.rw ⟨157,10,M0⟩,.rw ⟨172,6,A0⟩,.bx 122 2 [.J w0,.J w1],.bx 122 2 [.J h0',.J h1'],.bx 127 4 [.J 0,.J 0,.J 0,.N],.bx 127 4 [.J R1,.J R2,.J 0,.own 7],.rw ⟨45,5,[]⟩]) (fun BL hu=> ?_) (fun _ _=> ?_)
  ·cbv
   ((repeat'(first|exact trivial|exact rfl|refine And.intro ?_ ?_|(rw [t1];(try cbv))|(rw [t2];(try cbv))|((first|refine aa hg hn ?_|refine aa hg ho ?_|refine aa hg hh ?_|refine aa hg hC ?_);cbv))))
   all_goals first
    |exact hu () trivial _ _ (Wk.weak (wkM [some 0,some 1,some 2,some 3,some 4,some 5,some 10,some 9] zr2 ⟨.inr ⟨_,_,rfl,rfl,rfl,rfl,.inr ⟨zr5,trivial⟩⟩,.inr (wqE rfl hk),.inr (wqE rfl hQ),.inr (wqE rfl rfl),.inr (wqE rfl rfl),.inr (wqE rfl rfl),.inr ⟨_,_,rfl,rfl,rfl,rfl,.inr ⟨zr4,trivial⟩⟩,.inr (wqE rfl rfl),trivial⟩ (by decide) ⟨.inr rfl,.inr rfl,.inr rfl,trivial⟩ ⟨.inr ⟨_,rfl⟩,.inr ⟨_,rfl⟩,.inr ⟨_,rfl⟩,trivial⟩))
    |exact hu () trivial _ _ (Wk.weak (wkM [some 0,some 1,some 2,some 3,some 4,some 5,some 9,some 10] zr2 ⟨.inr ⟨_,_,rfl,rfl,rfl,rfl,.inr ⟨zr5,trivial⟩⟩,.inr (wqE rfl hk),.inr (wqE rfl hQ),.inr (wqE rfl rfl),.inr (wqE rfl rfl),.inr (wqE rfl rfl),.inr ⟨_,_,rfl,rfl,rfl,rfl,.inr ⟨zr4,trivial⟩⟩,.inr (wqE rfl rfl),trivial⟩ (by decide) ⟨.inr rfl,.inr rfl,.inr rfl,trivial⟩ ⟨.inr ⟨_,rfl⟩,.inr ⟨_,rfl⟩,.inr ⟨_,rfl⟩,trivial⟩))
  cbv
  exact AW 1 2 7 hF rfl (.inr zr4) rfl rfl rfl rfl (by decide) rfl hk hQ rfl
 rw [if_pos hG]
 subst hG
 have hZ:inW x2 ⟨w0,w1⟩=o7 ⟨w0,w1⟩ B1:=by unfold inW sY;rw [<-hj,hr];rfl
 have hN:=dv w0 w1 B1
 rw [hZ]
 obtain⟨⟨i0,i1⟩,hI⟩:∃q,q=o7 ⟨w0,w1⟩ B1:=⟨_,rfl⟩
 change PC0 _ _ (.t (agP (o7 ⟨w0,w1⟩ B1)))at hN
 rw [<-hI]at hN⊢
 have hR:=gX i0 i1
 obtain⟨RO,hT⟩:=nmE (ko ⟨i0,i1⟩);(try rw [<-hT]at hR);(try rw [<-hT]at⊢)
 have cW:=qa x4.rules RO h3
 rw [<-hE]at cW
 obtain⟨⟨q0,q1⟩,h2⟩:∃q,q=wnt x4.rules RO:=⟨_,rfl⟩
 rw [<-h2]at cW⊢
 dsimp only
 rw [acE]
 unfold zc
 dsimp only
 rw [<-hj]
 dsimp only
 rw [<-hr,<-hD,vc,EP,<-hw,<-hc]
 obtain⟨WT,hA⟩:=nmE (wrap64 (q0+B1))
 obtain⟨HT,hv⟩:=nmE (wrap64 (q1+B2))
 rw [<-hA,<-hv]
 have hn:=dQ w0 w1 WT
 have ho:=dQ h0' h1' HT
 obtain⟨R1,hy⟩:=nmE (tak ⟨w0,w1⟩ WT);(try rw [<-hy]at hn);(try rw [<-hy]at⊢)
 obtain⟨R2,hz⟩:=nmE (tak ⟨h0',h1'⟩ HT);(try rw [<-hz]at ho);(try rw [<-hz]at⊢)
 obtain⟨KW,he⟩:=nmE (knS p.wide);(try rw [<-he]at ha)
 have h5:A0.length<=1073741824:=by rw [hc];unfold SA;rw [aq];omega
 obtain⟨A2,hi⟩:∃A,A=A0++[[.J n,.J w0,.J w1,.J h0',.J h1',.B rtl]]:=⟨_,rfl⟩
 have hB:aC A2=true:=by rw [hi,hc];unfold SA;exact jf _ _ rfl
 change SE _ _ _ _ _ _ _ _ (A0++[[.J n,.J w0,.J w1,.J h0',.J h1',.B rtl]])
 rw [<-hi]
 refine vr (t:=45) (k:=5) (V:=[]) (R:= .t (.agg [.J R1,.J R2,.J R2,.own 5])) ?_ (fun x hx=>by cases hx) (fun x hx=>by cases hx) rfl rfl rfl
 have t1:∀g:Gd,g=G0 prog 3 f110.ntmps->g .w .add .i64 q0 B1=WT:=fun g hg=>by rw [aN hg,hA]
 have t2:∀g:Gd,g=G0 prog 3 f110.ntmps->g .w .add .i64 q1 B2=HT:=fun g hg=>by rw [aN hg,hv]
 clear he hy hz hA hv hw hc hK hp hb hP hj hr hD hV hH hE cF h2 hT hI hZ kn
 refine dl ([(9,.hand),(11,.hand)]) ([]) (c:=aJ f110) ay func110 (by kernel_rfl) (by kernel_rfl) (bl (by rfl)) (by kernel_rfl) (fun g hX hd F hJ hM hg hF=> ?_)
 have t1:=t1 g hg
 have t2:=t2 g hg
 cbv
 ((repeat'((first|refine ad hg cy ?_|refine ad hg hf ?_|refine aa hg ha ?_);cbv)))
 refine dr hg hM ay [0,1,2,3,5,6,7,8,9,10,11,12] (.op 4 [] (.op 13 [] (.op 14 [15,16] (.op 17 [] .done .none) .none) .none) (.op 13 [] (.op 4 [] (.op 14 [15,16] (.op 17 [] .done .none) .none) .none) .none)) (by kernel_rfl) (by kernel_rfl) (S:=Unit) (fun _=>True) (fun _=>[(0,.p 0),(6,.p 3),(7,.p 4),(8,.p 5),(9,.p 6),(10,.p 7),(12,.i (0)),(13,.i (0))]) (fun _=>[.bx 91 5 [.view V,.B rtl,.B keeps,.own 1,.own 8],.rw ⟨157,10,M0⟩,.gn,.bx 122 2 [.J w0,.J w1],.bx 122 2 [.J h0',.J h1'],.bx 127 4 [.J 0,.J 0,.J 0,.N],.bx 69 64 (B9 ⟨x0,x1,x2,true,x4⟩ Kx Rx),.bx 34 4 [.J fl,.J ft,.J fr,.J fb],.rw ⟨172,6,A2⟩]) (fun BL hu=> ?_) (fun _ _=> ?_)
 ·cbv
  ((repeat'(first|exact trivial|exact rfl|refine And.intro ?_ ?_|(refine Ha hg rfl (by decide) h5 ?_;cbv))))
  all_goals
   rw [gd hg,<-hi]
   exact hu () trivial _ _ (Wk.weak (wkM [some 0,some 1,none,some 3,some 4,some 5,some 6,some 7,some 10] zr8 ⟨.inr ⟨_,_,rfl,rfl,rfl,rfl,.inr ⟨zr5,trivial⟩⟩,.inr (wqE rfl hk),.inl rfl,.inr (wqE rfl rfl),.inr (wqE rfl rfl),.inr (wqE rfl rfl),.inr (wqE rfl rfl),.inr (wqE rfl rfl),.inr (wqE rfl hB),trivial⟩ (by decide) ⟨.inl rfl,.inr rfl,.inr rfl,trivial⟩ ⟨.inl rfl,.inr ⟨_,rfl⟩,.inr ⟨_,rfl⟩,trivial⟩))
 cbv
 ((repeat'((first|refine aa hg hh ?_|refine aa hg hN ?_|refine aa hg hR ?_|refine aa hg cW ?_);cbv)))
 refine dr hg hM ay [0,1,2,3,4,5,6,7,8,9,10,11] (.op 12 [13] (.op 14 [] (.op 15 [] .done .none) .none) (.op 14 [] (.op 12 [13] (.op 15 [] .done .none) .none) .none)) (by kernel_rfl) (by kernel_rfl) (S:=Unit) (fun _=>True) (fun _=>[(8,.p 5),(14,.p 6)]) (fun _=>[.bx 91 5 [.view V,.B rtl,.B keeps,.own 1,.own 8],.rw ⟨157,10,M0⟩,.gn,.bx 122 2 [.J w0,.J w1],.bx 122 2 [.J h0',.J h1'],.bx 127 4 [.J 0,.J 0,.J 0,.N],.bx 127 4 [.J R1,.J R2,.J 0,.own 7],.rw ⟨45,5,[]⟩,.rw ⟨172,6,A2⟩]) (fun BL hu=> ?_) (fun _ _=> ?_)
 ·cbv
  ((repeat'(first|exact trivial|exact rfl|refine And.intro ?_ ?_|(rw [t1];(try cbv))|(rw [t2];(try cbv))|((first|refine aa hg hn ?_|refine aa hg ho ?_|refine aa hg hh ?_|refine aa hg hC ?_);cbv))))
  all_goals first
   |exact hu () trivial _ _ (Wk.weak (wkM [some 0,some 1,none,some 3,some 4,some 5,some 10,some 9,some 8] zr2 ⟨.inr ⟨_,_,rfl,rfl,rfl,rfl,.inr ⟨zr5,trivial⟩⟩,.inr (wqE rfl hk),.inl rfl,.inr (wqE rfl rfl),.inr (wqE rfl rfl),.inr (wqE rfl rfl),.inr ⟨_,_,rfl,rfl,rfl,rfl,.inr ⟨zr4,trivial⟩⟩,.inr (wqE rfl rfl),.inr (wqE rfl hB),trivial⟩ (by decide) ⟨.inl rfl,.inr rfl,.inr rfl,trivial⟩ ⟨.inl rfl,.inr ⟨_,rfl⟩,.inr ⟨_,rfl⟩,trivial⟩))
   |exact hu () trivial _ _ (Wk.weak (wkM [some 0,some 1,none,some 3,some 4,some 5,some 9,some 10,some 8] zr2 ⟨.inr ⟨_,_,rfl,rfl,rfl,rfl,.inr ⟨zr5,trivial⟩⟩,.inr (wqE rfl hk),.inl rfl,.inr (wqE rfl rfl),.inr (wqE rfl rfl),.inr (wqE rfl rfl),.inr ⟨_,_,rfl,rfl,rfl,rfl,.inr ⟨zr4,trivial⟩⟩,.inr (wqE rfl rfl),.inr (wqE rfl hB),trivial⟩ (by decide) ⟨.inl rfl,.inr rfl,.inr rfl,trivial⟩ ⟨.inl rfl,.inr ⟨_,rfl⟩,.inr ⟨_,rfl⟩,trivial⟩))
 cbv
 exact AW 1 8 7 hF rfl (.inr zr4) rfl rfl rfl rfl (by decide) rfl hk hB rfl
theorem ru(V:LLA)(rtl:Bool)(kid:Int)(bb:ju)(M A0 M2 A2:LLA)(w0 w1 h0' h1':Int)(pM:aC M=true)(pA:aC A0=true)(pM2:aC M2=true)(pA2:aC A2=true)(hc:SE prog 110 (sR V rtl false) M A0 [.c (.ptr 0 0 0),ai kid,agP ⟨w0,w1⟩,agP ⟨h0',h1'⟩] (.t (.agg (ju.ac bb))) M2 A2):
  SE prog 76 (sR V rtl false) M A0 [.c (.ptr 0 0 0),ai kid,agP ⟨w0,w1⟩,agP ⟨h0',h1'⟩] (.t (.agg (ju.ac bb))) M2 A2:=by
 rw [acE]at hc⊢
 obtain⟨FR,ha⟩:=nmE (vw aM.c bb.frames);(try rw [<-ha]at hc);(try rw [<-ha]at⊢)
 clear ha
 refine dl ([(7,.hand),(10,.hand)]) ([]) (c:=aJ f76) ay func76 (by kernel_rfl) (by kernel_rfl) (bl (by rfl)) (by kernel_rfl) (fun g he hd F hb hf hg hF=> ?_)
 cbv
 (refine iP rfl hg 0 1 2 hc rfl rfl rfl (by decide) rfl pM pA ⟨rfl,rfl,.inl ⟨rfl,rfl⟩,.inl ⟨rfl,rfl⟩,trivial⟩ rfl ?_;cbv)
 exact qP 6 7 hF rfl rfl rfl rfl rfl (by decide) rfl pM2 pA2
def inR(n:Int):Prop:=0<=n/\n<=1048576
theorem uR(n:Int):inR (cl n):=by unfold inR cl bro;split<;>(try split)<;>omega
theorem FO{x:ag}(h:r8 x=true):inR (hyp x):=by
 simp only [r8,rng,zqs,zqp]at h
 unfold inR hyp il
 split<;>(try split)<;>(try split)<;>omega
theorem zV:∀(ps:List (Int×Int))(l:List Int),(∀p∈ps,inR p.2)->(∀v∈l,inR v)->∀v∈o3 ps l,inR v
 | [],l,_,h=>h
 |p::ps,l,hp,h=>by
  refine zV ps (l.set p.1.toNat p.2) (fun q hq=>hp q (List.mem_cons_of_mem _ hq)) fun v hv=> ?_
  rcases List.mem_or_eq_of_mem_set hv with h1|h1
  ·exact h v h1
  ·rw [h1];exact hp p (List.mem_cons_self ..)
variable {xs:List ag}
theorem Dm{fr:List Bool}(hx:∀x∈xs,r8 x=true)(hl:fr.length=xs.length){i:Int}(hi:i∈fre 0 fr):r8 (itA xs i)=true:=by
 obtain⟨h1,h2,_⟩:=gO fr 0 (Int.le_refl 0) i hi
 have ha:i.toNat<xs.length:=by omega
 have e:itA xs i=xs[i.toNat]:=by unfold itA;rw [zqc ha];rfl
 rw [e];exact hx _ (List.getElem_mem _)
theorem itR{x:ag}(h:r8 x=true):inR x.least/\(0<=x.most->inR (pU x)):=by
 simp only [r8,rng,zqs,zqp]at h
 unfold inR pU
 refine⟨by omega,fun h0=> ?_⟩
 split<;>omega
theorem DZ(X:Fx)(fr:List Bool)(rest:Int)(hx:∀x∈X.xs,r8 x=true)(hl:fr.length=X.xs.length):∀p∈X.setI fr rest,inR p.2:=by
 intro p hp
 unfold Fx.setI at hp
 split at hp
 ·unfold Fx.shs at hp
  obtain⟨q,_,rfl⟩:=List.mem_map.1 hp
  exact uR _
 ·rcases List.mem_append.1 hp with h|h
  ·split at h
   ·obtain⟨i,hi,rfl⟩:=List.mem_map.1 h
    unfold Fx.low at hi
    exact(itR (Dm hx hl (List.mem_filter.1 hi).1)).1
   ·cases h
  ·split at h
   ·obtain⟨i,hi,rfl⟩:=List.mem_map.1 h
    unfold Fx.hig at hi
    obtain⟨h1,h2⟩:=List.mem_filter.1 hi
    simp only [zqs,uE,zqp]at h2
    exact(itR (Dm hx hl h1)).2 h2.2.1
   ·cases h
theorem zY(X:Fx)(hx:∀x∈X.xs,r8 x=true):∀(k:Nat)(sz:List Int)(fr:List Bool)(r:List Int),fr.length=X.xs.length->(∀v∈sz,inR v)->X.runI k sz fr=some r->∀v∈r,inR v
 |0,sz,fr,r,_,_,h=>by simp [Fx.runI]at h
 |k+1,sz,fr,r,hl,hs,h=>by
  unfold Fx.runI at h
  split at h
  ·cases h;exact hs
  ·refine zY X hx k _ _ r ?_ (zV _ _ (DZ X fr _ hx hl) hs) h
   have:∀(is:List Int)(l:List Bool),(oE is l).length=l.length:=by
    intro is
    induction is with
    |nil=>intro l;rfl
    |cons i is ih=>intro l;show(oE is (l.set i.toNat true)).length=_;rw [ih,List.length_set]
   rw [this];exact hl
theorem FY(hx:∀x∈xs,r8 x=true)(gap inner:Int):∀v∈flx xs gap inner,inR v:=by
 have hh:∀v∈xs.map hyp,inR v:=fun v hv=>by
  obtain⟨x,ha,rfl⟩:=List.mem_map.1 hv
  exact FO (hx x ha)
 unfold flx
 split
 ·cases hr:(Fx.of xs gap inner).runI 13 (xs.map hyp) (xs.map (mO (AQ xs gap inner)))with
  |none=>intro v hv;cases hv
  |some r=>exact zY (Fx.of xs gap inner) hx 13 _ _ r (by rw [zql];rfl) hh hr
 ·exact hh
theorem lp{n:Int}(h:inR n):rng n 0 1048576=true:=by
 unfold inR at h
 simp only [rng,zqs,zqp];exact h
theorem ut(h:ep xs=true):(∀x∈xs,r8 x=true)/\xs.length<=12:=by
 simp only [ep,zqs,zqf,zqp]at h
 exact⟨h.1,by omega⟩
theorem FC(h:ep xs=true)(gap room:Int)(wr:Bool)(inner:Int):∀v∈lsz xs gap room wr inner,inR v:=fun v hv=>by
 unfold lsz at hv
 obtain⟨l,_,hm⟩:=List.mem_flatMap.1 hv
 exact FY (fun x hx=>(ut h).1 x (Ay hx)) gap inner v hm
theorem Ex{zs:List Int}(h:∀v∈zs,inR v)(i:Int):inR (elZ zs i):=by
 unfold elZ
 split
 ·cases hx:zs[i.toNat]? with
  |none=>exact⟨Int.le_refl 0,by decide⟩
  |some v=>exact h v (zqd hx)
 ·exact⟨Int.le_refl 0,by decide⟩
variable {I:List ag}
theorem Gp{ZZ:List Int}(hI:ep I=true)(hZ:∀v∈ZZ,inR v){l:List Int}(hl:∀i∈l,0<=i/\i<(I.length:Int))(hll:l.length<=12){gap inner:Int}(hg:inR gap)(hin:inR inner):al5 (lit I l) (l.map (elZ ZZ)) gap inner=true:=by
 have e:=wY hl
 simp only [al5,zqs,zqf,zqp]
 refine⟨fun s hs=> ?_,?_,by rw [zql,e],lp hg,lp hin⟩
 ·obtain⟨i,_,rfl⟩:=List.mem_map.1 hs
  exact lp (Ex hZ i)
 ·simp only [ep,zqs,zqf,zqp]
  exact⟨fun x hx=>(ut hI).1 x (Ay hx),by rw [e];omega⟩
theorem mg(s:aI)(n:Int):inR (tak s n):=by unfold tak;split<;>exact uR _
theorem AR(s:aj)(w:Bool):inR (jd s w):=by unfold jd;split<;>exact uR _
theorem Bu{p:Pl}(hI:ep I=true):∀l∈mL p I,al5 (lit I l) (l.map (elZ (rj p I))) (BD p) (BC p I)=true:=fun l hl=>by
 unfold mL at hl
 exact Gp hI (FC hI _ _ _ _) (fun i hi=>tY hl hi) (Nat.le_trans (jI hl) (ut hI).2) (AR _ _) (mg _ _)
theorem xK(v:dm)(base:Int):sF v base= -1\/inR (sF v base):=by
 unfold sF;split
 ·exact .inl rfl
 ·exact .inr (uR _)
theorem Gq(a b:Int):inR (adE a b):=by unfold adE;exact uR _
theorem FV(s:aj)(w:Bool):inR (sY s w):=by unfold sY;split<;>exact Gq _ _
theorem FD(s:aj)(w:Bool)(base:Int):inR (Ar s w base):=by
 have h1:=xK (if w then s.minWidth else s.minHeight) base
 have h2:=FV s w
 show inR (if sY s w<orl (sF (if w then s.minWidth else s.minHeight) base) 0 then orl (sF (if w then s.minWidth else s.minHeight) base) 0 else sY s w)
 generalize sF (if w then s.minWidth else s.minHeight) base=a at *
 generalize sY s w=b at *
 unfold orl inR at *
 by_cases ha:a= -1
 ·rw [if_pos ha];split<;>omega
 ·rw [if_neg ha];split<;>omega
theorem Fz(s:bg)(sd:Int)(rtl:Bool)(base:Int):rng (i9 s sd rtl base) (-1048576) 1048576=true:=by
 have:=Fj (Dj (nh s sd rtl) base)
 unfold i9
 split
 ·rfl
 ·simp only [rng,zqs,zqp];exact this
theorem Fr(s:aj)(w:Bool)(o:Int):qn s w o= -1\/inR (qn s w o):=by
 unfold qn;split
 ·exact .inl rfl
 ·split<;>exact .inr (uR _)
def ER(b:ju):Prop:=inR b.wide/\inR b.high/\inR b.base
theorem Gk{bx:Bx}{kid:Int}(hb:∀w h st,ER (bx kid w h st).1)(p:Pl)(rtl:Bool)(ns:List af)(st:St):inR (wn bx p rtl ns kid st).1:=by
 unfold wn
 split
 ·rename_i hn
  show inR (CT p (kst ns kid) rtl)
  have h1:=xK (kst ns kid).basis (knS p.al)
  have h2:=xK (if p.row then(kst ns kid).width else(kst ns kid).height) (knS p.al)
  have h3:=Fr (kst ns kid) p.row (kcX p (kst ns kid) rtl).n
  unfold CT at hn⊢
  split
  ·rename_i h;exact h1.resolve_left h
  ·rename_i h
   rw [if_neg h]at hn
   split
   ·rename_i h';exact h2.resolve_left h'
   ·rename_i h'
    rw [if_neg h']at hn
    split
    ·rename_i h''
     rw [if_pos h'']at hn
     exact h3.resolve_left hn
    ·rename_i h''
     rw [if_neg h'']at hn
     exact absurd rfl hn
 ·show inR (alB p.row (ta bx p.row kid _ _ st).1)
  unfold alB ta
  split
  ·exact(hb _ _ _).1
  ·exact(hb _ _ _).2.1
theorem Dl{bx:Bx}(p:Pl)(rtl:Bool)(ns:List af):∀(ks:List Int)(st:St),(∀k∈ks,∀w h st,ER (bx k w h st).1)->(∀k∈ks,rng (kst ns k).grow 0 1000=true/\rng (kst ns k).shrink 0 1000=true)->∀x∈(lN bx p rtl ns ks st).1,r8 x=true
 | [],st,_,_,x,hx=>by simp [lN]at hx
 |k::r,st,hb,hg,x,hx=>by
  simp only [lN,List.mem_cons]at hx
  rcases hx with rfl|hx
  ·have h1:=Gk (hb k (List.mem_cons_self ..)) p rtl ns st
   have h2:=hg k (List.mem_cons_self ..)
   have h3:=xK (if p.row then(kst ns k).maxWidth else(kst ns k).maxHeight) (knS p.al)
   have h4:rng (BA (kst ns k) p.row (knS p.al)) (-1) 1048576=true:=by
    unfold BA inR at *
    simp only [rng,zqs,zqp]
    rcases h3 with h3|h3<;>omega
   simp only [r8,FM,xS,sdB,lp h1,lp (FD _ _ _),h4,h2.1,h2.2,Fz,Bool.and_self]
  ·exact Dl p rtl ns r _ (fun k hk=>hb k (List.mem_cons_of_mem _ hk)) (fun k hk=>hg k (List.mem_cons_of_mem _ hk)) x hx
theorem G7(bx:Bx)(ns:List af)(rtl:Bool)(n:Int)(w h:aI)(st:St):ER (wV bx ns rtl n w h st).1:=by
 unfold wV
 split
 ·exact⟨mg _ _,mg _ _,mg _ _⟩
 ·split
  ·exact⟨mg _ _,mg _ _,mg _ _⟩
  ·exact⟨mg _ _,mg _ _,uR _⟩
theorem Hi(ns:List af)(rtl:Bool):∀(f:Nat)(n:Int)(w h:aI)(st:St),ER (xn false ns rtl f n w h st).1
 |0,_,_,_,_=>(⟨⟨Int.le_refl 0,by decide⟩,⟨Int.le_refl 0,by decide⟩,⟨Int.le_refl 0,by decide⟩⟩:ER ⟨0,0,0,[]⟩)
 |f+1,n,w,h,st=>by
  show ER (kpF false rtl (wV (xn false ns rtl f) ns rtl) n w h st).1
  unfold kpF
  rw [if_pos rfl]
  exact G7 ..
theorem Bb{a b:Int}(h0:0<b)(h1: -4611686018427387904<=a)(h2:a<=4611686018427387904):b*fdv a b<=a/\a<b*fdv a b+b:=by
 have e:=Int.mul_tdiv_add_tmod a b
 have hq: -4611686018427387904<=a.tdiv b/\a.tdiv b<=4611686018427387904:=by
  have h3:=Int.natAbs_tdiv_le_natAbs a b
  omega
 have m1: -b<a.tmod b:=by have:=Int.lt_tmod_of_pos a h0;omega
 have m2:a.tmod b<b:=Int.tmod_lt_of_pos a h0
 have w1:wrap64 (a.tdiv b)=a.tdiv b:=by unfold wrap64;omega
 have w2:wrap64 (a.tdiv b-1)=a.tdiv b-1:=by unfold wrap64;omega
 unfold fdv
 rw [if_neg (by omega),w1,w2]
 split
 ·rw [Int.mul_sub,Int.mul_one];omega
 ·by_cases hm:0<=a.tmod b
  ·omega
  ·omega
theorem Fh{n L k:Int}(hL:L<=64)(hn:0<=n)(hn2:n<=1048576)(hk:0<=k)(hk2:k<L):0<=wrap64 (fdv (wrap64 (n*wrap64 (k+1))) L-fdv (wrap64 (n*k)) L)/\wrap64 (fdv (wrap64 (n*wrap64 (k+1))) L-fdv (wrap64 (n*k)) L)<=n:=by
 have e1:wrap64 (k+1)=k+1:=aw _ (by omega)
 have m0:0<=n*k:=Int.mul_nonneg hn hk
 have m1:n*k<=1048576*64:=Int.mul_le_mul hn2 (by omega) hk (by decide)
 have ee:n*(k+1)=n*k+n:=by rw [Int.mul_add,Int.mul_one]
 rw [e1,ee]
 generalize n*k=m at *
 rw [aw (m+n) (by omega),aw m (by omega)]
 obtain⟨c1,c2⟩:=Bb (a:=m+n) (b:=L) (by omega) (by omega) (by omega)
 obtain⟨d1,d2⟩:=Bb (a:=m) (b:=L) (by omega) (by omega) (by omega)
 generalize fdv (m+n) L=q1 at *
 generalize fdv m L=q0 at *
 have hD:L*(q1-q0)=L*q1-L*q0:=Int.mul_sub ..
 have v1: -1<q1-q0:=Int.lt_of_mul_lt_mul_left (a:=L) (by rw [hD,Int.mul_neg,Int.mul_one];omega) (by omega)
 have g1:n<=L*n:=by
  have:=Int.mul_le_mul_of_nonneg_right (show(1:Int)<=L by omega) hn
  omega
 have v2:q1-q0<n+1:=Int.lt_of_mul_lt_mul_left (a:=L) (by rw [hD,Int.mul_add,Int.mul_one];omega) (by omega)
 rw [aw (q1-q0) (by omega)]
 omega
theorem xM{n L:Int}(hL:L<=64)(hn:0<=n)(hn2:n<=1048576):∀(j:Nat)(s:Int),0<=s->s+(j:Int)<=L->∀v∈shG n L s (List.replicate j 1),0<=v/\v<=n
 |0,s,_,_,v,hv=>by simp [shG]at hv
 |j+1,s,h0,h1,v,hv=>by
  rw [List.replicate_succ]at hv
  simp only [shG,List.mem_cons]at hv
  rcases hv with rfl|hv
  ·exact Fh hL hn hn2 h0 (by omega)
  ·rw [aw (s+1) (by omega)]at hv
   exact xM hL hn hn2 j (s+1) (by omega) (by omega) v hv
theorem va:∀(m:Nat)(a:Int),0<=a->a+(m:Int)<=1000->oA a (List.replicate m 1)=a+(m:Int)
 |0,a,_,_=>by simp [oA]
 |m+1,a,h0,h1=>by
  rw [List.replicate_succ]
  simp only [oA]
  rw [aw (a+1) (by omega),va m (a+1) (by omega) (by omega)]
  omega
theorem F5{n many:Int}(hn:0<=n)(hn2:n<=1048576):∀v∈evn n many,0<=v/\v<=n:=by
 have hm:=oK many
 have e:sg n=n:=by unfold sg bro;rw [if_neg (by omega)];split<;>omega
 unfold evn shr
 rw [if_pos (An _ hm),e,va _ 0 (Int.le_refl 0) (by omega)]
 exact xM (by omega) hn hn2 _ 0 (Int.le_refl 0) (Int.le_refl _)
theorem Fi{c:Int}(h:inR c):sg c=c:=by unfold inR at h;unfold sg bro;rw [if_neg (by omega)];split<;>omega
theorem zN:∀(cs:List Int),(∀c∈cs,inR c)->0<=cs.sum/\cs.sum<=1048576*(cs.length:Int)/\∀c∈cs,c<=cs.sum
 | [],_=>by simp
 |c::r,h=>by
  obtain⟨h1,h2,h3⟩:=zN r fun x hx=>h x (List.mem_cons_of_mem _ hx)
  have hc:=h c (List.mem_cons_self ..)
  unfold inR at hc
  simp only [List.sum_cons,zqx]
  refine⟨by omega,by omega,fun x hx=> ?_⟩
  rcases List.mem_cons.1 hx with rfl|hx
  ·omega
  ·have:=h3 x hx;omega
theorem xE:∀(cs:List Int)(a:Int),(∀c∈cs,inR c)->0<=a->a+1048576*(cs.length:Int)<=1099511627776->yO a cs=a+cs.sum
 | [],a,_,_,_=>by simp [yO]
 |c::r,a,h,h0,h1=>by
  have hc:=h c (List.mem_cons_self ..)
  have hs:=Fi hc
  unfold inR at hc
  simp only [zqx]at h1
  simp only [yO,List.sum_cons]
  rw [hs,aw (a+c) (by omega),xE r (a+c) (fun x hx=>h x (List.mem_cons_of_mem _ hx)) (by omega) (by omega)]
  omega
variable {cs:List Int}
theorem Ga{gap:Int}(h:∀c∈cs,inR c)(hl:cs.length<=12)(hg:inR gap):0<=crt cs gap/\crt cs gap<=33554432/\∀c∈cs,c<=crt cs gap:=by
 unfold crt
 split
 ·rename_i e;subst e;exact⟨Int.le_refl 0,by decide,fun c hc=>by cases hc⟩
 ·rename_i e
  have hp:0<cs.length:=List.length_pos_iff.2 e
  obtain⟨s1,s2,s3⟩:=zN cs h
  have m0:0<=gap*((cs.length:Int)-1):=Int.mul_nonneg hg.1 (by omega)
  have m1:gap*((cs.length:Int)-1)<=1048576*12:=Int.mul_le_mul hg.2 (by omega) (by omega) (by decide)
  rw [xE cs 0 h (Int.le_refl 0) (by omega)]
  generalize gap*((cs.length:Int)-1)=m at *
  rw [aw m (by omega),aw (0+cs.sum+m) (by omega)]
  exact⟨by omega,by omega,fun c hc=>by have:=s3 c hc;omega⟩
theorem Fd{gap inner ct:Int}(h:∀c∈cs,inR c)(hl:cs.length<=12)(hg:inR gap)(hi:inR inner):∀v∈wu cs gap inner ct,inR v:=by
 unfold wu
 split
 ·rename_i hc
  obtain⟨_,_,hf⟩:=hc
  obtain⟨c1,c2,c3⟩:=Ga h hl hg
  unfold inR at hi
  rw [aw (inner-crt cs gap) (by omega)]at hf⊢
  intro v hv
  obtain⟨q,hq,rfl⟩:=List.mem_map.1 hv
  obtain⟨a,b⟩:=q
  have ha:=List.of_mem_zip hq
  have h1:=h a ha.1
  have h2:=c3 a ha.1
  have h3:=F5 (by omega) (by omega) b ha.2
  unfold inR at h1⊢
  dsimp only
  rw [aw (a+b) (by omega)]
  omega
 ·exact h
theorem Gf(xs:List ar):inR (cro xs):=by
 unfold cro;split
 ·exact⟨Int.le_refl 0,by decide⟩
 ·exact uR _
theorem Gb{p:Pl}(hac:p.ac.mode=3->inR p.ac.n){ls:List (List Int)}(hl:ls.length<=12)(S:List ar):∀v∈xk p ls S,inR v:=by
 have h1:∀v∈ls.map (GO p S),inR v:=fun v hv=>by
  obtain⟨l,_,rfl⟩:=List.mem_map.1 hv
  unfold GO;split
  ·rename_i h;exact hac h.2
  ·exact Gf _
 unfold xk
 split
 ·rename_i h;exact Fd h1 (by rw [zql];exact hl) (AR _ _) (hac h.2)
 ·exact h1
theorem Bw{p:Pl}(hI:ep I=true)(hac:p.ac.mode=3->inR p.ac.n)(S:List ar):acr (xk p (mL p I) S) (sX p) (yI p (xk p (mL p I) S))=true:=by
 have hl:(mL p I).length<=12:=Nat.le_trans (mK ..) (ut hI).2
 have ha:=uQ p (mL p I) S (by omega)
 simp only [acr,zqs,zqf,zqp]
 exact⟨fun c hc=>lp (Gb hac hl S c hc),by rw [ha];omega,lp (AR _ _),lp (mg _ _)⟩
theorem AP(s:aI)(z:Int):(o7 s z).mode=3->inR (o7 s z).n:=by
 unfold o7
 split
 ·rename_i h;intro h3;rw [h]at h3;cases h3
 ·exact fun _=>uR _
theorem Fu(ns:List af)(n:Int)(w h:aI):(plO ns n w h).ac.mode=3->inR (plO ns n w h).ac.n:=by
 show(if jF (kst ns n)then inH (kst ns n) h else inW (kst ns n) w).mode=3->inR (if jF (kst ns n)then inH (kst ns n) h else inW (kst ns n) w).n
 split
 ·exact AP _ _
 ·exact AP _ _
variable {ns:List af}
theorem FJ(ht:eo ns=true){k:Int}(hk:isN ns k=true):zP (kst ns k)=true:=by
 obtain⟨k1,k2,y,hy⟩:=bq hk
 rw [gU hy]
 simp only [eo,zqs]at ht
 have:=(jP ns ns 0).1 ht.2 _ y hy
 simp only [fG,zqs]at this
 exact this.1
theorem yk(bx:Bx)(p:Pl)(rtl:Bool)(ns:List af):∀(ks:List Int)(st:St),(lN bx p rtl ns ks st).1.length=ks.length
 | [],_=>rfl
 |k::r,st=>by simp only [lN,zqx,yk bx p rtl ns r]
theorem FL(ht:eo ns=true){bx:Bx}(hb:∀k w h st,ER (bx k w h st).1)(p:Pl)(rtl:Bool){ks:List Int}(hk:∀k∈ks,isN ns k=true)(hkl:ks.length<=12)(st:St):ep (lN bx p rtl ns ks st).1=true:=by
 simp only [ep,zqs,zqf,zqp]
 refine⟨Dl p rtl ns ks st (fun k _=>hb k) fun k ha=> ?_,by rw [yk];omega⟩
 have:=FJ ht (hk k ha)
 simp only [zP,stN,zqs]at this
 exact⟨this.1.2.2.2.2.2.2.2.1,this.1.2.2.2.2.2.2.2.2.1⟩
def cN:Nat->Nat
 |0=>0
 |f+1=>40*cN f+1
theorem Eh{V:LLA}{rtl keeps:Bool}{bx:Bx}{c L:Nat}{n:Int}(hk:∀kid∈flK ns n,xx V rtl keeps bx c L kid)(hkl:(flK ns n).length<20)(w h:aI)(st:St):(wV bx ns rtl n w h st).2.1.length<=st.1.length+(40*c+1)/\(wV bx ns rtl n w h st).2.2.length<=st.2.length+(40*c+1):=by
 unfold wV
 split
 ·dsimp only
  rw [zqe,zqm]
  omega
 ·split
  ·dsimp only;omega
  ·unfold Cv
   dsimp only
   rw [show(plO ns n w h).kids=flK ns n from rfl]
   have h1:=xc (V:=V) (rtl:=rtl) (keeps:=keeps) (L:=L) (plO ns n w h) ns (flK ns n) st hk
   obtain⟨ra,hc⟩:=nmE (lN bx (plO ns n w h) rtl ns (flK ns n) st)
   rw [<-hc]at h1⊢
   have h2:=wM (V:=V) (rtl:=rtl) (keeps:=keeps) (L:=L) (plO ns n w h) ns ((flK ns n).zip (rj (plO ns n w h) ra.1)) ra.2 fun k ha=>hk k.1 (by obtain⟨a,b⟩:=k;exact(List.of_mem_zip ha).1)
   rw [zqB,th,h1.1,Nat.min_self]at h2
   have hb:(flK ns n).length*c<=20*c:=Nat.mul_le_mul_right c (by omega)
   have h3:=h1.2
   have h4:=h2.2
   omega
theorem DE(ns:List af)(rtl:Bool)(f:Nat)(n:Int)(w h:aI)(st:St):xn false ns rtl (f+1) n w h st=wV (xn false ns rtl f) ns rtl n w h st:=by
 show kpF false rtl (wV (xn false ns rtl f) ns rtl) n w h st=_
 unfold kpF
 rw [if_pos rfl]
theorem qm{ns:List af}(hl:ns.length<=1048576)(hs:∀y∈ns,af.small y)(ht:eo ns=true)(rtl:Bool):∀(f:Nat)(n:Int),isN ns n=true->5<=uP ns n+(f:Int)->xx (vwA af.ac ns) rtl false (xn false ns rtl f) (cN f) 1073741824 n
 |0,n,hn,hd=>by have:=mU ht hn;omega
 |f+1,n,hn,hd=>by
  obtain⟨n1,n2,x,hx⟩:=bq hn
  have hi:=wI ht n1 hx
  have hf:=io ht n1 hx
  have hb:∀ha∈flK ns n,xx (vwA af.ac ns) rtl false (xn false ns rtl f) (cN f) 1073741824 ha:=fun ha hk=>by
   have hm:=uJ hx ha hk
   have:=AJ ht n1 hx ha hm
   exact qm hl hs ht rtl f ha (hf ha hm) (by omega)
  have he:(flK ns n).length<=12:=by rw [yp hx,nf];exact Nat.le_trans (List.length_filter_le _ _) hi
  have hh:∀k∈flK ns n,isN ns k=true:=fun k h=>hf k (uJ hx k h)
  refine⟨fun w h st=>by rw [DE];exact Eh hb (by omega) w h st,fun w0 w1 h0 h1 st hm hq=> ?_⟩
  rw [DE]
  have hI:=FL ht (Hi ns rtl f) (plO ns n ⟨w0,w1⟩ ⟨h0,h1⟩) rtl hh he st
  refine ru _ rtl n _ _ _ _ _ w0 w1 h0 h1 (bU _) (bV _) (bU _) (bV _) (rl ns hl hs ht rtl false (xn false ns rtl f) (cN f) 1073741824 (Nat.le_refl _) n x hn hx w0 w1 h0 h1 hb st hm hq (fun I hc l hj=> ?_) (fun I ho hc cs hg=> ?_))
  ·subst hc;exact Bu hI l hj
  ·have e:I=(lN (xn false ns rtl f) (plO ns n ⟨w0,w1⟩ ⟨h0,h1⟩) rtl ns (flK ns n) st).1:=by rw [<-hc]
   rw [hg]
   exact Bw (by rw [e];exact hI) (Fu ns n _ _) _
theorem D9(hl:ns.length<=1048576)(hs:∀y∈ns,af.small y)(ht:eo ns=true)(rtl:Bool){kid:Int}(hk:isN ns kid=true):xx (vwA af.ac ns) rtl false (xn false ns rtl 4) 65641 1073741824 kid:=
 qm hl hs ht rtl 4 kid hk (by have:=mU ht hk;omega)
def st0:St:=([],[])
theorem SM0:SM st0.1=[]:=rfl
theorem SA0:SA st0.2=[]:=rfl
end Go.Proofs.YtckchgoblpgpbaaGreat
