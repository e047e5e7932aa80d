/- A part. -/
import Derived.Test.YtckchgoblpgpbaaGreatJ8ba
set_option linter.all false
set_option maxHeartbeats 80000000
namespace Go.Proofs.YtckchgoblpgpbaaGreat
open Go.ChangeShapes Go.WideShapes Go.ChangeAt Go.RowKit Am Go.Proofs.Tryz
set_option maxRecDepth 100000
section
variable {xs:List af}
variable {l:List Int}{k:Int}{LL:List (List Int)}
variable {cs:List Int}{gap inner ct:Int}
theorem tj(ns:List ae)(hl:ns.length<=1048576)(hs:∀y∈ns,ae.small y)(ht:dl ns=true)(rtl keeps:Bool)(bx:Bx)(c L:Nat)(hL:L<=1073741824)(n:Int)(x:ae)(h1:isN ns n=true)(hx:ns[(n-1).toNat]? =some x)(w0 w1 h0' h1':Int)(hbx:∀kid∈flK ns n,yD (vwA ae.ac ns) rtl keeps bx c L kid)(st:St)(hm:st.1.length+(40*c+1)<=L)(hq:st.2.length+(40*c+1)<=L)
  (hal:∀I,I=(mV bx (plO ns n ⟨w0,w1⟩ ⟨h0',h1'⟩) rtl ns (flK ns n) st).1->∀l∈m5 (plO ns n ⟨w0,w1⟩ ⟨h0',h1'⟩) I,al5 (lit I l) (l.map (elZ (tc (plO ns n ⟨w0,w1⟩ ⟨h0',h1'⟩) I))) (El (plO ns n ⟨w0,w1⟩ ⟨h0',h1'⟩)) (Ek (plO ns n ⟨w0,w1⟩ ⟨h0',h1'⟩) I)=true)
  (hac:∀I st1,(I,st1)=mV bx (plO ns n ⟨w0,w1⟩ ⟨h0',h1'⟩) rtl ns (flK ns n) st->∀cs,cs=zK (plO ns n ⟨w0,w1⟩ ⟨h0',h1'⟩) (m5 (plO ns n ⟨w0,w1⟩ ⟨h0',h1'⟩) I) (vU bx (plO ns n ⟨w0,w1⟩ ⟨h0',h1'⟩) rtl ns ((flK ns n).zip (tc (plO ns n ⟨w0,w1⟩ ⟨h0',h1'⟩) I)) st1).1->acr cs (vb (plO ns n ⟨w0,w1⟩ ⟨h0',h1'⟩)) (BJ (plO ns n ⟨w0,w1⟩ ⟨h0',h1'⟩) cs)=true):
  SE prog 110 (sR (vwA ae.ac ns) rtl keeps) (SM st.1) (SA st.2) [.c (.ptr 0 0 0),ai n,agP ⟨w0,w1⟩,agP ⟨h0',h1'⟩] (.t (.agg (jH.ac (zj bx ns rtl n ⟨w0,w1⟩ ⟨h0',h1'⟩ st).1))) (SM (zj bx ns rtl n ⟨w0,w1⟩ ⟨h0',h1'⟩ st).2.1) (SA (zj bx ns rtl n ⟨w0,w1⟩ ⟨h0',h1'⟩ st).2.2):=by
 obtain⟨n1,n2,_⟩:=bd h1
 have hX:=fk ht n1 hx
 have h6:=lB ht n1 hx
 have h3:∀k∈flK ns n,isN ns k=true:=fun k h=>hX k (wV hx k h)
 have hU:flK ns n=ix (i9 ns) (x.kids.filter (m6 ns)):=Bm hx
 have hR:(flK ns n).length<20:=by rw [hU,l6];exact Nat.lt_of_le_of_lt (List.length_filter_le _ _) (by omega)
 have cU:=vE ns n x hs ht hl n1 n2 hx (by omega) hX w0 w1 h0' h1'
 rw [<-hU]at cU
 have cy:=bg ns n x n1 (by omega) hx (vwA ae.ac ns) _ _ rfl rfl rfl
 have hS:kst ns n=x.style:=gj hx
 have h4:nod ns n=x:=Gp hx
 obtain⟨p,hp⟩:=nmE (plO ns n ⟨w0,w1⟩ ⟨h0',h1'⟩)
 have ha:PC0 147 [.agg [.view (vwA ae.ac ns)],ai n,agP ⟨w0,w1⟩,agP ⟨h0',h1'⟩] (.t (.agg (nwL n p.s p.row p.al p.ac (knS p.wide) (.view (vw ak p.kids))))):=by
  rw [hp];unfold plO;rw [hS];exact cU
 clear cU
 have hb:p.kids=flK ns n:=by rw [hp];rfl
 have hO:p.s=x.style:=by rw [hp];exact hS
 unfold zj
 rw [h4,hS,<-hp]
 have cF:=fun(hkn:p.kids≠[])=>tr ns hl rtl keeps bx c L n p w0 w1 h0' h1' (by rw [hp];rfl) (by rw [hp];rfl) hkn (by rw [hb];exact hR) (by rw [hb];exact h3) (by rw [hb];exact hbx) st (by omega) (by omega) (by rw [hb,hp];exact hal _ rfl) (by rw [hb,hp];exact hac _ _ rfl)
 clear hal hac hbx
 obtain⟨V,hV⟩:=nmE (vwA ae.ac ns)
 rw [<-hV]at cy ha⊢
 simp only [<-hV]at cF
 obtain⟨Kx,hE⟩:=nmE (vw ak x.kids)
 obtain⟨Rx,hC⟩:=nmE (vw aC.c x.table.rules)
 rw [<-hE,<-hC]at cy
 have hZ:x.table.rules.length<=1048576:=(hs x (zqd hx)).2.1
 have hf:=fE x.style
 obtain⟨fe,hi⟩:=nmE (mz x.style)
 rw [<-hi]at hf
 obtain⟨fl,ft,fr,fb⟩:=fe
 have hh:=fz fl ft fr fb
 have hA:=fB fl ft fr fb
 obtain⟨B1,hr⟩:=nmE (adE fl fr)
 obtain⟨B2,hB⟩:=nmE (adE ft fb)
 change PC0 _ _ (.i (adE fl fr))at hh
 change PC0 _ _ (.i (adE ft fb))at hA
 rw [<-hr]at hh
 rw [<-hB]at hA
 obtain⟨M0,hw⟩:=nmE (SM st.1)
 obtain⟨A0,hc⟩:=nmE (SA st.2)
 have hj:ay M0=true:=by rw [hw];exact bD _
 have hP:ay A0=true:=by rw [hc];exact bG _
 have kn:∀g:Gd,g=G0 prog 3 f110.ntmps->g .q .gtr (g .ln (vw ak p.kids)) 0=decide (p.kids≠[]):=fun g hg=>by
  rw [dm hg,bz hg,aU]
  cases p.kids with
  |nil=>rfl
  |cons a b=>exact decide_eq_decide.2 ⟨fun _=>by simp,fun _=>by simp only [zqx];omega⟩
 obtain⟨K,hK⟩:=nmE (vw ak p.kids)
 rw [<-hK]at ha kn
 simp only [<-hK]at cF
 obtain⟨x0,x1,x2,x3,x4⟩:=x
 dsimp only at hO hi hZ hE hC hf cy⊢
 by_cases hD:x3=true
 case neg=>
  rw [if_neg hD]
  replace hD:x3=false:=by simpa using hD
  subst hD
  by_cases hkn:p.kids=[]
  case neg=>
   rw [if_neg (by rw [<-hb];exact hkn)]
   have cF:=cF hkn
   obtain⟨rr,h5⟩:=nmE (Fr bx p rtl ns st)
   rw [<-h5]at cF⊢
   rw [acE]at cF⊢
   have h0:=bD rr.2.1
   have hz:=bG rr.2.2
   rw [<-hw,<-hc]at cF⊢
   generalize hM2:SM rr.2.1=M2 at cF h0
   generalize ho:SA rr.2.2=A2 at cF hz;replace ho:=ho.symm
   generalize hFR:vw ag.c rr.1.frames=FR at cF
   generalize he:knS p.wide=KW at ha cF;replace he:=he.symm
   clear he hFR hM2 ho hw hc hK hp hb hO hi hr hB hV hE hC
   refine mC [(9,.hand),(11,.hand)] func110 (fun g hT hd F hJ hM hg hF=> ?_)
   have kn:=kn g hg
   rw [zqu hkn]at kn
   cbv
   ((repeat'((first|rw [kn]|refine ad hg cy ?_|refine ad hg hf ?_|refine aa hg ha ?_|refine gl rfl hg 0 1 2 cF rfl rfl rfl (by decide) rfl hj hP ⟨rfl,.inl ⟨rfl,rfl⟩,.inl ⟨rfl,rfl⟩,.inl ⟨rfl,rfl⟩,zpt⟩ rfl ?_);cbv)))
   exact sK 9 10 hF rfl rfl rfl rfl rfl (by decide) rfl h0 hz
  rw [if_pos (by rw [<-hb];exact hkn)]
  dsimp only
  rw [acE]
  unfold Cc
  dsimp only
  rw [<-hi]
  dsimp only
  rw [<-hr,<-hB,xu,<-hw,<-hc]
  obtain⟨WT,hy⟩:=nmE (wrap64 (0+B1))
  obtain⟨HT,hv⟩:=nmE (wrap64 (0+B2))
  rw [<-hy,<-hv]
  have hk:=dT w0 w1 WT
  have hn:=dT h0' h1' HT
  generalize hG:tak ⟨w0,w1⟩ WT=R1 at hk;replace hG:=hG.symm
  generalize hH:tak ⟨h0',h1'⟩ HT=R2 at hn;replace hH:=hH.symm
  generalize he:knS p.wide=KW at ha;replace he:=he.symm
  refine uL (t:=45) (k:=5) (V:=[]) (R:= .t (.agg [.J R1,.J R2,.J R2,.own 5])) ?_ (fun x hx=>by cases hx) (fun x hx=>by cases hx) rfl rfl rfl
  have t1:∀g:Gd,g=G0 prog 3 f110.ntmps->g .w .add .i64 0 B1=WT:=fun g hg=>by rw [aG hg,hy]
  have t2:∀g:Gd,g=G0 prog 3 f110.ntmps->g .w .add .i64 0 B2=HT:=fun g hg=>by rw [aG hg,hv]
  clear he hG hH hy hv hw hc hK hp hb hO hi hr hB hV hE hC cF
  refine mC [(9,.hand),(11,.hand)] func110 (fun g hT hd F hJ hM hg hF=> ?_)
  have kn:=kn g hg
  have t1:=t1 g hg
  have t2:=t2 g hg
  rw [zqt (Classical.not_not.2 hkn)]at kn
  cbv
  ((repeat'((first|rw [kn]|refine ad hg cy ?_|refine ad hg hf ?_|refine aa hg ha ?_);cbv)))
  refine bP hg hM bq [0,1,2,3,4,5,6,7,8,9,10,11] (.op 12 [13] (.op 14 [] (.op 15 [] .done .none) .none) (.op 14 [] (.op 12 [13] (.op 15 [] .done .none) .none) .none)) (by kernel_rfl) (by kernel_rfl) (S:=Unit) (fun _=>True) (fun _=>[(8,.p 5),(14,.p 6)]) (fun _=>[.bx 91 5 [.view V,.B rtl,.B keeps,.own 1,.own 2],.rw ⟨157,10,M0⟩,.rw ⟨172,6,A0⟩,.bx 122 2 [.J w0,.J w1],.bx 122 2 [.J h0',.J h1'],.bx 127 4 [.J 0,.J 0,.J 0,.N],.bx 127 4 [.J R1,.J R2,.J 0,.own 7],.rw ⟨45,5,[]⟩]) (fun BL hu=> ?_) (fun _ _=> ?_)
  ·cbv
   ((repeat'(first|exact trivial|exact rfl|refine And.intro ?_ ?_|(rw [t1];(try cbv))|(rw [t2];(try cbv))|((first|refine aa hg hk ?_|refine aa hg hn ?_|refine aa hg hh ?_|refine aa hg hA ?_);cbv))))
   all_goals first
    |exact hu () trivial _ _ (Wk.weak (wkM [some 0,some 1,some 2,some 3,some 4,some 5,some 10,some 9] zr2 ⟨.inr (wqB rfl ⟨zr5,zpt⟩),.inr (wqE rfl hj),.inr (wqE rfl hP),.inr (wqE rfl rfl),.inr (wqE rfl rfl),.inr (wqE rfl rfl),.inr (wqB rfl ⟨zr4,zpt⟩),.inr (wqE rfl rfl),zpt⟩ (by decide) ⟨.inr rfl,.inr rfl,.inr rfl,zpt⟩ ⟨.inr ⟨_,rfl⟩,.inr ⟨_,rfl⟩,.inr ⟨_,rfl⟩,zpt⟩))
    |exact hu () trivial _ _ (Wk.weak (wkM [some 0,some 1,some 2,some 3,some 4,some 5,some 9,some 10] zr2 ⟨.inr (wqB rfl ⟨zr5,zpt⟩),.inr (wqE rfl hj),.inr (wqE rfl hP),.inr (wqE rfl rfl),.inr (wqE rfl rfl),.inr (wqE rfl rfl),.inr (wqB rfl ⟨zr4,zpt⟩),.inr (wqE rfl rfl),zpt⟩ (by decide) ⟨.inr rfl,.inr rfl,.inr rfl,zpt⟩ ⟨.inr ⟨_,rfl⟩,.inr ⟨_,rfl⟩,.inr ⟨_,rfl⟩,zpt⟩))
  cbv
  exact Ch 1 2 7 hF rfl (.inr zr4) rfl rfl rfl rfl (by decide) rfl hj hP rfl
 rw [if_pos hD]
 subst hD
 have hW:inW x2 ⟨w0,w1⟩=qE ⟨w0,w1⟩ B1:=by unfold inW vc;rw [<-hi,hr];rfl
 have hN:=dB w0 w1 B1
 rw [hW]
 obtain⟨⟨i0,i1⟩,hI⟩:∃q,q=qE ⟨w0,w1⟩ B1:=⟨_,rfl⟩
 change PC0 _ _ (.t (agP (qE ⟨w0,w1⟩ B1)))at hN
 rw [<-hI]at hN⊢
 have hQ:=iv i0 i1
 generalize hRO:lw ⟨i0,i1⟩=RO at hQ
 have cW:=rB x4.rules RO hZ
 rw [<-hC]at cW
 obtain⟨⟨q0,q1⟩,hY⟩:∃q,q=wnt x4.rules RO:=⟨_,rfl⟩
 rw [<-hY]at cW⊢
 dsimp only
 rw [acE]
 unfold Cc
 dsimp only
 rw [<-hi]
 dsimp only
 rw [<-hr,<-hB,xu,Ip,<-hw,<-hc]
 obtain⟨WT,hy⟩:=nmE (wrap64 (q0+B1))
 obtain⟨HT,hv⟩:=nmE (wrap64 (q1+B2))
 rw [<-hy,<-hv]
 have hk:=dT w0 w1 WT
 have hn:=dT h0' h1' HT
 generalize hG:tak ⟨w0,w1⟩ WT=R1 at hk
 generalize hH:tak ⟨h0',h1'⟩ HT=R2 at hn
 generalize he:knS p.wide=KW at ha
 have h2:A0.length<=1073741824:=by rw [hc];unfold SA;rw [ar];omega
 obtain⟨A2,ho⟩:∃A,A=A0++[[.J n,.J w0,.J w1,.J h0',.J h1',.B rtl]]:=⟨_,rfl⟩
 have hz:ay A2=true:=by rw [ho,hc];unfold SA;exact jK _ _ rfl
 change SE _ _ _ _ _ _ _ _ (A0++[[.J n,.J w0,.J w1,.J h0',.J h1',.B rtl]])
 rw [<-ho]
 refine uL (t:=45) (k:=5) (V:=[]) (R:= .t (.agg [.J R1,.J R2,.J R2,.own 5])) ?_ (fun x hx=>by cases hx) (fun x hx=>by cases hx) rfl rfl rfl
 have t1:∀g:Gd,g=G0 prog 3 f110.ntmps->g .w .add .i64 q0 B1=WT:=fun g hg=>by rw [aG hg,hy]
 have t2:∀g:Gd,g=G0 prog 3 f110.ntmps->g .w .add .i64 q1 B2=HT:=fun g hg=>by rw [aG hg,hv]
 clear he hG hH hy hv hw hc hK hp hb hO hi hr hB hV hE hC cF hY hRO hI hW kn
 refine mC [(9,.hand),(11,.hand)] func110 (fun g hT hd F hJ hM hg hF=> ?_)
 have t1:=t1 g hg
 have t2:=t2 g hg
 cbv
 ((repeat'((first|refine ad hg cy ?_|refine ad hg hf ?_|refine aa hg ha ?_);cbv)))
 refine bP hg hM bq [0,1,2,3,5,6,7,8,9,10,11,12] (.op 4 [] (.op 13 [] (.op 14 [15,16] (.op 17 [] .done .none) .none) .none) (.op 13 [] (.op 4 [] (.op 14 [15,16] (.op 17 [] .done .none) .none) .none) .none)) (by kernel_rfl) (by kernel_rfl) (S:=Unit) (fun _=>True) (fun _=>[(0,.p 0),(6,.p 3),(7,.p 4),(8,.p 5),(9,.p 6),(10,.p 7),(12,.i (0)),(13,.i (0))]) (fun _=>[.bx 91 5 [.view V,.B rtl,.B keeps,.own 1,.own 8],.rw ⟨157,10,M0⟩,.gn,.bx 122 2 [.J w0,.J w1],.bx 122 2 [.J h0',.J h1'],.bx 127 4 [.J 0,.J 0,.J 0,.N],.bx 69 64 (EW ⟨x0,x1,x2,true,x4⟩ Kx Rx),.bx 34 4 [.J fl,.J ft,.J fr,.J fb],.rw ⟨172,6,A2⟩]) (fun BL hu=> ?_) (fun _ _=> ?_)
 ·cbv
  ((repeat'(first|exact trivial|exact rfl|refine And.intro ?_ ?_|(refine KD hg rfl (by decide) h2 ?_;cbv))))
  all_goals
   rw [fI hg,<-ho]
   exact hu () trivial _ _ (Wk.weak (wkM [some 0,some 1,none,some 3,some 4,some 5,some 6,some 7,some 10] zr8 ⟨.inr (wqB rfl ⟨zr5,zpt⟩),.inr (wqE rfl hj),.inl rfl,.inr (wqE rfl rfl),.inr (wqE rfl rfl),.inr (wqE rfl rfl),.inr (wqE rfl rfl),.inr (wqE rfl rfl),.inr (wqE rfl hz),zpt⟩ (by decide) ⟨.inl rfl,.inr rfl,.inr rfl,zpt⟩ ⟨.inl rfl,.inr ⟨_,rfl⟩,.inr ⟨_,rfl⟩,zpt⟩))
 cbv
 ((repeat'((first|refine aa hg hh ?_|refine aa hg hN ?_|refine aa hg hQ ?_|refine aa hg cW ?_);cbv)))
 refine bP hg hM bq [0,1,2,3,4,5,6,7,8,9,10,11] (.op 12 [13] (.op 14 [] (.op 15 [] .done .none) .none) (.op 14 [] (.op 12 [13] (.op 15 [] .done .none) .none) .none)) (by kernel_rfl) (by kernel_rfl) (S:=Unit) (fun _=>True) (fun _=>[(8,.p 5),(14,.p 6)]) (fun _=>[.bx 91 5 [.view V,.B rtl,.B keeps,.own 1,.own 8],.rw ⟨157,10,M0⟩,.gn,.bx 122 2 [.J w0,.J w1],.bx 122 2 [.J h0',.J h1'],.bx 127 4 [.J 0,.J 0,.J 0,.N],.bx 127 4 [.J R1,.J R2,.J 0,.own 7],.rw ⟨45,5,[]⟩,.rw ⟨172,6,A2⟩]) (fun BL hu=> ?_) (fun _ _=> ?_)
 ·cbv
  ((repeat'(first|exact trivial|exact rfl|refine And.intro ?_ ?_|(rw [t1];(try cbv))|(rw [t2];(try cbv))|((first|refine aa hg hk ?_|refine aa hg hn ?_|refine aa hg hh ?_|refine aa hg hA ?_);cbv))))
  all_goals first
   |exact hu () trivial _ _ (Wk.weak (wkM [some 0,some 1,none,some 3,some 4,some 5,some 10,some 9,some 8] zr2 ⟨.inr (wqB rfl ⟨zr5,zpt⟩),.inr (wqE rfl hj),.inl rfl,.inr (wqE rfl rfl),.inr (wqE rfl rfl),.inr (wqE rfl rfl),.inr (wqB rfl ⟨zr4,zpt⟩),.inr (wqE rfl rfl),.inr (wqE rfl hz),zpt⟩ (by decide) ⟨.inl rfl,.inr rfl,.inr rfl,zpt⟩ ⟨.inl rfl,.inr ⟨_,rfl⟩,.inr ⟨_,rfl⟩,zpt⟩))
   |exact hu () trivial _ _ (Wk.weak (wkM [some 0,some 1,none,some 3,some 4,some 5,some 9,some 10,some 8] zr2 ⟨.inr (wqB rfl ⟨zr5,zpt⟩),.inr (wqE rfl hj),.inl rfl,.inr (wqE rfl rfl),.inr (wqE rfl rfl),.inr (wqE rfl rfl),.inr (wqB rfl ⟨zr4,zpt⟩),.inr (wqE rfl rfl),.inr (wqE rfl hz),zpt⟩ (by decide) ⟨.inl rfl,.inr rfl,.inr rfl,zpt⟩ ⟨.inl rfl,.inr ⟨_,rfl⟩,.inr ⟨_,rfl⟩,zpt⟩))
 cbv
 exact Ch 1 8 7 hF rfl (.inr zr4) rfl rfl rfl rfl (by decide) rfl hj hz rfl
theorem tt(V:LLA)(rtl:Bool)(kid:Int)(bb:jH)(M A0 M2 A2:LLA)(w0 w1 h0' h1':Int)(pM:ay M=true)(pA:ay A0=true)(pM2:ay M2=true)(pA2:ay A2=true)(hc:SE prog 110 (sR V rtl false) M A0 [.c (.ptr 0 0 0),ai kid,agP ⟨w0,w1⟩,agP ⟨h0',h1'⟩] (.t (.agg (jH.ac bb))) M2 A2):
  SE prog 76 (sR V rtl false) M A0 [.c (.ptr 0 0 0),ai kid,agP ⟨w0,w1⟩,agP ⟨h0',h1'⟩] (.t (.agg (jH.ac bb))) M2 A2:=by
 rw [acE]at hc⊢
 generalize hFR:vw ag.c bb.frames=FR at hc
 clear hFR
 refine mC [(7,.hand),(10,.hand)] func76 (fun g hb hd F ha he hg hF=> ?_)
 cbv
 (refine gl rfl hg 0 1 2 hc rfl rfl rfl (by decide) rfl pM pA ⟨rfl,rfl,.inl ⟨rfl,rfl⟩,.inl ⟨rfl,rfl⟩,zpt⟩ rfl ?_;cbv)
 exact sK 6 7 hF rfl rfl rfl rfl rfl (by decide) rfl pM2 pA2
def inR(n:Int):Prop:=0<=n/\n<=1048576
theorem xc(n:Int):inR (cl n):=by unfold inR cl bro;split<;>(try split)<;>omega
theorem Js{x:af}(h:uj x=true):inR (hyp x):=by
 simp only [uj,rng,zqs,zqp]at h
 unfold inR hyp iQ
 split<;>(try split)<;>(try split)<;>omega
theorem CT:∀(ps:List (Int×Int))(l:List Int),(∀p∈ps,inR p.2)->(∀v∈l,inR v)->∀v∈qv ps l,inR v
 | [],l,_,h=>h
 |p::ps,l,hp,h=>by
  refine CT ps (l.set p.1.toNat p.2) (fun q hq=>hp q (zpe _ hq)) fun v hv=> ?_
  rcases List.mem_or_eq_of_mem_set hv with h1|h1
  ·exact h v h1
  ·rw [h1];exact hp p (zpd ..)
theorem GA{fr:List Bool}(hx:∀x∈xs,uj x=true)(hl:fr.length=xs.length){i:Int}(hi:i∈fre 0 fr):uj (itA xs i)=true:=by
 obtain⟨h1,h2,_⟩:=ik fr 0 (zpc 0) i hi
 have ha:i.toNat<xs.length:=by omega
 have e:itA xs i=xs[i.toNat]:=by unfold itA;rw [zqc ha];rfl
 rw [e];exact hx _ (List.getElem_mem _)
theorem itR{x:af}(h:uj x=true):inR x.least/\(0<=x.most->inR (ru x)):=by
 simp only [uj,rng,zqs,zqp]at h
 unfold inR ru
 refine⟨by omega,fun h0=> ?_⟩
 split<;>omega
theorem Hn(X:Fx)(fr:List Bool)(rest:Int)(hx:∀x∈X.xs,uj x=true)(hl:fr.length=X.xs.length):∀p∈X.setI fr rest,inR p.2:=by
 intro p hp
 unfold Fx.setI at hp
 split at hp
 ·unfold Fx.shs at hp
  obtain⟨q,_,rfl⟩:=List.mem_map.1 hp
  exact xc _
 ·rcases List.mem_append.1 hp with h|h
  ·split at h
   ·obtain⟨i,hi,rfl⟩:=List.mem_map.1 h
    unfold Fx.low at hi
    exact(itR (GA hx hl (List.mem_filter.1 hi).1)).1
   ·cases h
  ·split at h
   ·obtain⟨i,hi,rfl⟩:=List.mem_map.1 h
    unfold Fx.hig at hi
    obtain⟨h1,h2⟩:=List.mem_filter.1 hi
    simp only [zqs,wQ,zqp]at h2
    exact(itR (GA hx hl h1)).2 h2.2.1
   ·cases h
theorem CV(X:Fx)(hx:∀x∈X.xs,uj x=true):∀(k:Nat)(sz:List Int)(fr:List Bool)(r:List Int),fr.length=X.xs.length->(∀v∈sz,inR v)->X.runI k sz fr=some r->∀v∈r,inR v
 |0,sz,fr,r,_,_,h=>by simp [Fx.runI]at h
 |k+1,sz,fr,r,hl,hs,h=>by
  unfold Fx.runI at h
  split at h
  ·cases h;exact hs
  ·refine CV X hx k _ _ r ?_ (CT _ _ (Hn X fr _ hx hl) hs) h
   have:∀(is:List Int)(l:List Bool),(pX is l).length=l.length:=by
    intro is
    induction is with
    |nil=>intro l;rfl
    |cons i is ih=>intro l;show(pX is (l.set i.toNat true)).length=_;rw [ih,List.length_set]
   rw [this];exact hl
theorem JA(hx:∀x∈xs,uj x=true)(gap inner:Int):∀v∈flx xs gap inner,inR v:=by
 have hh:∀v∈xs.map hyp,inR v:=fun v hv=>by
  obtain⟨x,ha,rfl⟩:=List.mem_map.1 hv
  exact Js (hx x ha)
 unfold flx
 split
 ·cases hr:(Fx.of xs gap inner).runI 13 (xs.map hyp) (xs.map (nM (DF xs gap inner)))with
  |none=>intro v hv;cases hv
  |some r=>exact CV (Fx.of xs gap inner) hx 13 _ _ r (by rw [zql];rfl) hh hr
 ·exact hh
theorem ml{n:Int}(h:inR n):rng n 0 1048576=true:=by
 unfold inR at h
 simp only [rng,zqs,zqp];exact h
theorem wG(h:er xs=true):(∀x∈xs,uj x=true)/\xs.length<=12:=by
 simp only [er,zqs,zqf,zqp]at h
 exact⟨h.1,by omega⟩
theorem Jf(h:er xs=true)(gap room:Int)(wr:Bool)(inner:Int):∀v∈lsz xs gap room wr inner,inR v:=fun v hv=>by
 unfold lsz at hv
 obtain⟨l,_,hm⟩:=List.mem_flatMap.1 hv
 exact JA (fun x hx=>(wG h).1 x (Du hx)) gap inner v hm
theorem H5{zs:List Int}(h:∀v∈zs,inR v)(i:Int):inR (elZ zs i):=by
 unfold elZ
 split
 ·cases hx:zs[i.toNat]? with
  |none=>exact⟨zpc 0,by decide⟩
  |some v=>exact h v (zqd hx)
 ·exact⟨zpc 0,by decide⟩
variable {I:List af}
theorem JW{ZZ:List Int}(hI:er I=true)(hZ:∀v∈ZZ,inR v)(hl:∀i∈l,0<=i/\i<(I.length:Int))(hll:l.length<=12){gap inner:Int}(hg:inR gap)(hin:inR inner):al5 (lit I l) (l.map (elZ ZZ)) gap inner=true:=by
 have e:=zm hl
 simp only [al5,zqs,zqf,zqp]
 refine⟨fun s hs=> ?_,?_,by rw [zql,e],ml hg,ml hin⟩
 ·obtain⟨i,_,rfl⟩:=List.mem_map.1 hs
  exact ml (H5 hZ i)
 ·simp only [er,zqs,zqf,zqp]
  exact⟨fun x hx=>(wG hI).1 x (Du hx),by rw [e];omega⟩
theorem ni(s:aK)(n:Int):inR (tak s n):=by unfold tak;split<;>exact xc _
theorem DH(s:ah)(w:Bool):inR (jG s w):=by unfold jG;split<;>exact xc _
theorem Ea{p:Pl}(hI:er I=true):∀l∈m5 p I,al5 (lit I l) (l.map (elZ (tc p I))) (El p) (Ek p I)=true:=fun l hl=>by
 unfold m5 at hl
 exact JW hI (Jf hI _ _ _ _) (fun i hi=>wl hl hi) (zpb (kl hl) (wG hI).2) (DH _ _) (ni _ _)
theorem Ak(v:ir)(base:Int):uI v base= -1\/inR (uI v base):=by
 unfold uI;split
 ·exact .inl rfl
 ·exact .inr (xc _)
theorem JX(a b:Int):inR (adE a b):=by unfold adE;exact xc _
theorem Jx(s:ah)(w:Bool):inR (vc s w):=by unfold vc;split<;>exact JX _ _
theorem Jg(s:ah)(w:Bool)(base:Int):inR (Dm s w base):=by
 have h1:=Ak (if w then s.minWidth else s.minHeight) base
 have h2:=Jx s w
 show inR (if vc s w<orl (uI (if w then s.minWidth else s.minHeight) base) 0 then orl (uI (if w then s.minWidth else s.minHeight) base) 0 else vc s w)
 generalize uI (if w then s.minWidth else s.minHeight) base=a at *
 generalize vc s w=b at *
 unfold orl inR at *
 by_cases ha:a= -1
 ·rw [if_pos ha];split<;>omega
 ·rw [if_neg ha];split<;>omega
theorem Je(s:bI)(sd:Int)(rtl:Bool)(base:Int):rng (jv s sd rtl base) (-1048576) 1048576=true:=by
 have:=IR (Gx (rF s sd rtl) base)
 unfold jv
 split
 ·rfl
 ·simp only [rng,zqs,zqp];exact this
theorem I6(s:ah)(w:Bool)(o:Int):rQ s w o= -1\/inR (rQ s w o):=by
 unfold rQ;split
 ·exact .inl rfl
 ·split<;>exact .inr (xc _)
def Iq(b:jH):Prop:=inR b.wide/\inR b.high/\inR b.base
theorem JS{bx:Bx}{kid:Int}(hb:∀w h st,Iq (bx kid w h st).1)(p:Pl)(rtl:Bool)(ns:List ae)(st:St):inR (yz bx p rtl ns kid st).1:=by
 unfold yz
 split
 ·rename_i hn
  show inR (FS p (kst ns kid) rtl)
  have h1:=Ak (kst ns kid).basis (knS p.al)
  have h2:=Ak (if p.row then(kst ns kid).width else(kst ns kid).height) (knS p.al)
  have h3:=I6 (kst ns kid) p.row (kcX p (kst ns kid) rtl).n
  unfold FS at hn⊢
  split
  ·rename_i h;exact h1.resolve_left h
  ·rename_i h
   rw [if_neg h]at hn
   split
   ·rename_i h';exact h2.resolve_left h'
   ·rename_i h'
    rw [if_neg h']at hn
    split
    ·rename_i h''
     rw [if_pos h'']at hn
     exact h3.resolve_left hn
    ·rename_i h''
     rw [if_neg h'']at hn
     exact absurd rfl hn
 ·show inR (alB p.row (vr bx p.row kid _ _ st).1)
  unfold alB vr
  split
  ·exact(hb _ _ _).1
  ·exact(hb _ _ _).2.1
theorem Gz{bx:Bx}(p:Pl)(rtl:Bool)(ns:List ae):∀(ks:List Int)(st:St),(∀k∈ks,∀w h st,Iq (bx k w h st).1)->(∀k∈ks,rng (kst ns k).grow 0 1000=true/\rng (kst ns k).shrink 0 1000=true)->∀x∈(mV bx p rtl ns ks st).1,uj x=true
 | [],st,_,_,x,hx=>by simp [mV]at hx
 |k::r,st,hb,hg,x,hx=>by
  simp only [mV,zph]at hx
  rcases hx with rfl|hx
  ·have h1:=JS (hb k (zpd ..)) p rtl ns st
   have h2:=hg k (zpd ..)
   have h3:=Ak (if p.row then(kst ns k).maxWidth else(kst ns k).maxHeight) (knS p.al)
   have h4:rng (Ei (kst ns k) p.row (knS p.al)) (-1) 1048576=true:=by
    unfold Ei inR at *
    simp only [rng,zqs,zqp]
    rcases h3 with h3|h3<;>omega
   simp only [uj,Jo,Ay,sdB,ml h1,ml (Jg _ _ _),h4,h2.1,h2.2,Je,Bool.and_self]
  ·exact Gz p rtl ns r _ (fun k hk=>hb k (zpe _ hk)) (fun k hk=>hg k (zpe _ hk)) x hx
theorem Kz(bx:Bx)(ns:List ae)(rtl:Bool)(n:Int)(w h:aK)(st:St):Iq (zj bx ns rtl n w h st).1:=by
 unfold zj
 split
 ·exact⟨ni _ _,ni _ _,ni _ _⟩
 ·split
  ·exact⟨ni _ _,ni _ _,ni _ _⟩
  ·exact⟨ni _ _,ni _ _,xc _⟩
theorem KQ(ns:List ae)(rtl:Bool):∀(f:Nat)(n:Int)(w h:aK)(st:St),Iq (vo false ns rtl f n w h st).1
 |0,_,_,_,_=>(⟨⟨zpc 0,by decide⟩,⟨zpc 0,by decide⟩,⟨zpc 0,by decide⟩⟩:Iq ⟨0,0,0,[]⟩)
 |f+1,n,w,h,st=>by
  show Iq (kpF false rtl (zj (vo false ns rtl f) ns rtl) n w h st).1
  unfold kpF
  rw [if_pos rfl]
  exact Kz ..
theorem DP{a b:Int}(h0:0<b)(h1: -4611686018427387904<=a)(h2:a<=4611686018427387904):b*fdv a b<=a/\a<b*fdv a b+b:=by
 have e:=Int.mul_tdiv_add_tmod a b
 have hq: -4611686018427387904<=a.tdiv b/\a.tdiv b<=4611686018427387904:=by
  have h3:=Int.natAbs_tdiv_le_natAbs a b
  omega
 have m1: -b<a.tmod b:=by have:=Int.lt_tmod_of_pos a h0;omega
 have m2:a.tmod b<b:=Int.tmod_lt_of_pos a h0
 have w1:wrap64 (a.tdiv b)=a.tdiv b:=by unfold wrap64;omega
 have w2:wrap64 (a.tdiv b-1)=a.tdiv b-1:=by unfold wrap64;omega
 unfold fdv
 rw [if_neg (by omega),w1,w2]
 split
 ·rw [Int.mul_sub,Int.mul_one];omega
 ·by_cases hm:0<=a.tmod b
  ·omega
  ·omega
theorem IP{n L k:Int}(hL:L<=64)(hn:0<=n)(hn2:n<=1048576)(hk:0<=k)(hk2:k<L):0<=wrap64 (fdv (wrap64 (n*wrap64 (k+1))) L-fdv (wrap64 (n*k)) L)/\wrap64 (fdv (wrap64 (n*wrap64 (k+1))) L-fdv (wrap64 (n*k)) L)<=n:=by
 have e1:wrap64 (k+1)=k+1:=aq _ (by omega)
 have m0:0<=n*k:=Int.mul_nonneg hn hk
 have m1:n*k<=1048576*64:=Int.mul_le_mul hn2 (by omega) hk (by decide)
 have ee:n*(k+1)=n*k+n:=by rw [Int.mul_add,Int.mul_one]
 rw [e1,ee]
 generalize n*k=m at *
 rw [aq (m+n) (by omega),aq m (by omega)]
 obtain⟨c1,c2⟩:=DP (a:=m+n) (b:=L) (by omega) (by omega) (by omega)
 obtain⟨d1,d2⟩:=DP (a:=m) (b:=L) (by omega) (by omega) (by omega)
 generalize fdv (m+n) L=q1 at *
 generalize fdv m L=q0 at *
 have hD:L*(q1-q0)=L*q1-L*q0:=Int.mul_sub ..
 have v1: -1<q1-q0:=Int.lt_of_mul_lt_mul_left (a:=L) (by rw [hD,Int.mul_neg,Int.mul_one];omega) (by omega)
 have g1:n<=L*n:=by
  have:=Int.mul_le_mul_of_nonneg_right (show(1:Int)<=L by omega) hn
  omega
 have v2:q1-q0<n+1:=Int.lt_of_mul_lt_mul_left (a:=L) (by rw [hD,Int.mul_add,Int.mul_one];omega) (by omega)
 rw [aq (q1-q0) (by omega)]
 omega
theorem An{n L:Int}(hL:L<=64)(hn:0<=n)(hn2:n<=1048576):∀(j:Nat)(s:Int),0<=s->s+(j:Int)<=L->∀v∈shG n L s (List.replicate j 1),0<=v/\v<=n
 |0,s,_,_,v,hv=>by simp [shG]at hv
 |j+1,s,h0,h1,v,hv=>by
  rw [List.replicate_succ]at hv
  simp only [shG,zph]at hv
  rcases hv with rfl|hv
  ·exact IP hL hn hn2 h0 (by omega)
  ·rw [aq (s+1) (by omega)]at hv
   exact An hL hn hn2 j (s+1) (by omega) (by omega) v hv
theorem xr:∀(m:Nat)(a:Int),0<=a->a+(m:Int)<=1000->pJ a (List.replicate m 1)=a+(m:Int)
 |0,a,_,_=>by simp [pJ]
 |m+1,a,h0,h1=>by
  rw [List.replicate_succ]
  simp only [pJ]
  rw [aq (a+1) (by omega),xr m (a+1) (by omega) (by omega)]
  omega
theorem JD{n many:Int}(hn:0<=n)(hn2:n<=1048576):∀v∈evn n many,0<=v/\v<=n:=by
 have hm:=qf many
 have e:sg n=n:=by unfold sg bro;rw [if_neg (by omega)];split<;>omega
 unfold evn shr
 rw [if_pos (Dh _ hm),e,xr _ 0 (zpc 0) (by omega)]
 exact An (by omega) hn hn2 _ 0 (zpc 0) (zpc _)
theorem IQ{c:Int}(h:inR c):sg c=c:=by unfold inR at h;unfold sg bro;rw [if_neg (by omega)];split<;>omega
theorem CK:∀(cs:List Int),(∀c∈cs,inR c)->0<=cs.sum/\cs.sum<=1048576*(cs.length:Int)/\∀c∈cs,c<=cs.sum
 | [],_=>by simp
 |c::r,h=>by
  obtain⟨h1,h2,h3⟩:=CK r fun x hx=>h x (zpe _ hx)
  have hc:=h c (zpd ..)
  unfold inR at hc
  simp only [List.sum_cons,zqx]
  refine⟨by omega,by omega,fun x hx=> ?_⟩
  rcases zph.1 hx with rfl|hx
  ·omega
  ·have:=h3 x hx;omega
theorem Ae:∀(cs:List Int)(a:Int),(∀c∈cs,inR c)->0<=a->a+1048576*(cs.length:Int)<=1099511627776->BR a cs=a+cs.sum
 | [],a,_,_,_=>by simp [BR]
 |c::r,a,h,h0,h1=>by
  have hc:=h c (zpd ..)
  have hs:=IQ hc
  unfold inR at hc
  simp only [zqx]at h1
  simp only [BR,List.sum_cons]
  rw [hs,aq (a+c) (by omega),Ae r (a+c) (fun x hx=>h x (zpe _ hx)) (by omega) (by omega)]
  omega
theorem JH{gap:Int}(h:∀c∈cs,inR c)(hl:cs.length<=12)(hg:inR gap):0<=crt cs gap/\crt cs gap<=33554432/\∀c∈cs,c<=crt cs gap:=by
 unfold crt
 split
 ·rename_i e;subst e;exact⟨zpc 0,by decide,fun c hc=>by cases hc⟩
 ·rename_i e
  have hp:0<cs.length:=List.length_pos_iff.2 e
  obtain⟨s1,s2,s3⟩:=CK cs h
  have m0:0<=gap*((cs.length:Int)-1):=Int.mul_nonneg hg.1 (by omega)
  have m1:gap*((cs.length:Int)-1)<=1048576*12:=Int.mul_le_mul hg.2 (by omega) (by omega) (by decide)
  rw [Ae cs 0 h (zpc 0) (by omega)]
  generalize gap*((cs.length:Int)-1)=m at *
  rw [aq m (by omega),aq (0+cs.sum+m) (by omega)]
  exact⟨by omega,by omega,fun c hc=>by have:=s3 c hc;omega⟩
theorem IJ(h:∀c∈cs,inR c)(hl:cs.length<=12)(hg:inR gap)(hi:inR inner):∀v∈yE cs gap inner ct,inR v:=by
 unfold yE
 split
 ·rename_i hc
  obtain⟨_,_,hf⟩:=hc
  obtain⟨c1,c2,c3⟩:=JH h hl hg
  unfold inR at hi
  rw [aq (inner-crt cs gap) (by omega)]at hf⊢
  intro v hv
  obtain⟨q,hq,rfl⟩:=List.mem_map.1 hv
  obtain⟨a,b⟩:=q
  have ha:=List.of_mem_zip hq
  have h1:=h a ha.1
  have h2:=c3 a ha.1
  have h3:=JD (by omega) (by omega) b ha.2
  unfold inR at h1⊢
  dsimp only
  rw [aq (a+b) (by omega)]
  omega
 ·exact h
theorem JK(xs:List aw):inR (cro xs):=by
 unfold cro;split
 ·exact⟨zpc 0,by decide⟩
 ·exact xc _
theorem JI{p:Pl}(hac:p.ac.mode=3->inR p.ac.n){ls:List (List Int)}(hl:ls.length<=12)(S:List aw):∀v∈zK p ls S,inR v:=by
 have h1:∀v∈ls.map (Ki p S),inR v:=fun v hv=>by
  obtain⟨l,_,rfl⟩:=List.mem_map.1 hv
  unfold Ki;split
  ·rename_i h;exact hac h.2
  ·exact JK _
 unfold zK
 split
 ·rename_i h;exact IJ h1 (by rw [zql];exact hl) (DH _ _) (hac h.2)
 ·exact h1
theorem Eb{p:Pl}(hI:er I=true)(hac:p.ac.mode=3->inR p.ac.n)(S:List aw):acr (zK p (m5 p I) S) (vb p) (BJ p (zK p (m5 p I) S))=true:=by
 have hl:(m5 p I).length<=12:=zpb (mf ..) (wG hI).2
 have ha:=rh p (m5 p I) S (by omega)
 simp only [acr,zqs,zqf,zqp]
 exact⟨fun c hc=>ml (JI hac hl S c hc),by rw [ha];omega,ml (DH _ _),ml (ni _ _)⟩
theorem DE(s:aK)(z:Int):(qE s z).mode=3->inR (qE s z).n:=by
 unfold qE
 split
 ·rename_i h;intro h3;rw [h]at h3;cases h3
 ·exact fun _=>xc _
theorem I8(ns:List ae)(n:Int)(w h:aK):(plO ns n w h).ac.mode=3->inR (plO ns n w h).ac.n:=by
 show(if kf (kst ns n)then inH (kst ns n) h else inW (kst ns n) w).mode=3->inR (if kf (kst ns n)then inH (kst ns n) h else inW (kst ns n) w).n
 split
 ·exact DE _ _
 ·exact DE _ _
variable {ns:List ae}
theorem Jl(ht:dl ns=true)(hk:isN ns k=true):CM (kst ns k)=true:=by
 obtain⟨k1,k2,y,hy⟩:=bd hk
 rw [gj hy]
 simp only [dl,zqs]at ht
 have:=(kC ns ns 0).1 ht.2 _ y hy
 simp only [fP,zqs]at this
 exact this.1
theorem Be(bx:Bx)(p:Pl)(rtl:Bool)(ns:List ae):∀(ks:List Int)(st:St),(mV bx p rtl ns ks st).1.length=ks.length
 | [],_=>rfl
 |k::r,st=>by simp only [mV,zqx,Be bx p rtl ns r]
theorem Jn(ht:dl ns=true){bx:Bx}(hb:∀k w h st,Iq (bx k w h st).1)(p:Pl)(rtl:Bool){ks:List Int}(hk:∀k∈ks,isN ns k=true)(hkl:ks.length<=12)(st:St):er (mV bx p rtl ns ks st).1=true:=by
 simp only [er,zqs,zqf,zqp]
 refine⟨Gz p rtl ns ks st (fun k _=>hb k) fun k ha=> ?_,by rw [Be];omega⟩
 have:=Jl ht (hk k ha)
 simp only [CM,stN,zqs]at this
 exact⟨this.1.2.2.2.2.2.2.2.1,this.1.2.2.2.2.2.2.2.2.1⟩
def cN:Nat->Nat
 |0=>0
 |f+1=>40*cN f+1
theorem HD{V:LLA}{rtl keeps:Bool}{bx:Bx}{c L:Nat}{n:Int}(hk:∀kid∈flK ns n,yD V rtl keeps bx c L kid)(hkl:(flK ns n).length<20)(w h:aK)(st:St):(zj bx ns rtl n w h st).2.1.length<=st.1.length+(40*c+1)/\(zj bx ns rtl n w h st).2.2.length<=st.2.length+(40*c+1):=by
 unfold zj
 split
 ·dsimp only
  rw [zqe,zqm]
  omega
 ·split
  ·dsimp only;omega
  ·unfold Fr
   dsimp only
   rw [show(plO ns n w h).kids=flK ns n from rfl]
   have h1:=zr (V:=V) (rtl:=rtl) (keeps:=keeps) (L:=L) (plO ns n w h) ns (flK ns n) st hk
   obtain⟨ra,hc⟩:=nmE (mV bx (plO ns n w h) rtl ns (flK ns n) st)
   rw [<-hc]at h1⊢
   have h2:=yV (V:=V) (rtl:=rtl) (keeps:=keeps) (L:=L) (plO ns n w h) ns ((flK ns n).zip (tc (plO ns n w h) ra.1)) ra.2 fun k ha=>hk k.1 (by obtain⟨a,b⟩:=k;exact(List.of_mem_zip ha).1)
   rw [zqB,vB,h1.1,Nat.min_self]at h2
   have hb:(flK ns n).length*c<=20*c:=zpf c (by omega)
   have h3:=h1.2
   have h4:=h2.2
   omega
theorem G3(ns:List ae)(rtl:Bool)(f:Nat)(n:Int)(w h:aK)(st:St):vo false ns rtl (f+1) n w h st=zj (vo false ns rtl f) ns rtl n w h st:=by
 show kpF false rtl (zj (vo false ns rtl f) ns rtl) n w h st=_
 unfold kpF
 rw [if_pos rfl]
theorem rP{ns:List ae}(hl:ns.length<=1048576)(hs:∀y∈ns,ae.small y)(ht:dl ns=true)(rtl:Bool):∀(f:Nat)(n:Int),isN ns n=true->5<=qg ns n+(f:Int)->yD (vwA ae.ac ns) rtl false (vo false ns rtl f) (cN f) 1073741824 n
 |0,n,hn,hd=>by have:=iu ht hn;omega
 |f+1,n,hn,hd=>by
  obtain⟨n1,n2,x,hx⟩:=bd hn
  have hi:=lB ht n1 hx
  have hf:=fk ht n1 hx
  have hb:∀ha∈flK ns n,yD (vwA ae.ac ns) rtl false (vo false ns rtl f) (cN f) 1073741824 ha:=fun ha hk=>by
   have hm:=wV hx ha hk
   have:=nJ ht n1 hx ha hm
   exact rP hl hs ht rtl f ha (hf ha hm) (by omega)
  have he:(flK ns n).length<=12:=by rw [Bm hx,l6];exact zpb (List.length_filter_le _ _) hi
  have hh:∀k∈flK ns n,isN ns k=true:=fun k h=>hf k (wV hx k h)
  refine⟨fun w h st=>by rw [G3];exact HD hb (by omega) w h st,fun w0 w1 h0 h1 st hm hq=> ?_⟩
  rw [G3]
  have hI:=Jn ht (KQ ns rtl f) (plO ns n ⟨w0,w1⟩ ⟨h0,h1⟩) rtl hh he st
  refine tt _ rtl n _ _ _ _ _ w0 w1 h0 h1 (bD _) (bG _) (bD _) (bG _) (tj ns hl hs ht rtl false (vo false ns rtl f) (cN f) 1073741824 (zpk _) n x hn hx w0 w1 h0 h1 hb st hm hq (fun I hc l hj=> ?_) (fun I ho hc cs hg=> ?_))
  ·subst hc;exact Ea hI l hj
  ·have e:I=(mV (vo false ns rtl f) (plO ns n ⟨w0,w1⟩ ⟨h0,h1⟩) rtl ns (flK ns n) st).1:=by rw [<-hc]
   rw [hg]
   exact Eb (by rw [e];exact hI) (I8 ns n _ _) _
theorem wa(hl:ns.length<=1048576)(hs:∀y∈ns,ae.small y)(ht:dl ns=true)(rtl:Bool){kid:Int}(hk:isN ns kid=true):yD (vwA ae.ac ns) rtl false (vo false ns rtl 4) 65641 1073741824 kid:=
 rP hl hs ht rtl 4 kid hk (by have:=iu ht hk;omega)
end
end Go.Proofs.YtckchgoblpgpbaaGreat
