/- The law of ApartFrame. -/
import Derived.Test.YtckchgoblpgpbaaGreatJ5bu
set_option linter.unusedVariables false
set_option linter.unusedSimpArgs false
set_option maxHeartbeats 16000000
namespace Go.Proofs.YtckchgoblpgpbaaGreat
open Go.ChangeShapes Go.WideShapes Go.ChangeAt Go.RowKit Am Go.Proofs.Tryz
set_option maxRecDepth 100000
def apS(bx:Bx)(ns:List af)(rtl:Bool)(n kid w h:Int)(st:St):aM×St:=
 (apF (kst ns n) (kst ns kid) rtl w h kid (bx kid (apX (kst ns kid) rtl (tU (kst ns n) w) (vK (kst ns n) h)) (apY (kst ns kid) rtl (tU (kst ns n) w) (vK (kst ns n) h)) st).1,(bx kid (apX (kst ns kid) rtl (tU (kst ns n) w) (vK (kst ns n) h)) (apY (kst ns kid) rtl (tU (kst ns n) w) (vK (kst ns n) h)) st).2)
theorem EM{bx:Bx}{b:Bv}(hf:CY bx b)(ns:List af)(rtl:Bool)(n kid w h:Int)(st:St):(apS bx ns rtl n kid w h st).1=apG b ns rtl n kid w h:=by
 unfold apS apG
 dsimp only
 rw [hf]
theorem oB(s:aj)(a b:Int)(rtl:Bool)(base mb all size e0 e1 f0 f1:Int)(turned:Bool):PC0 79 [.agg (lc (aj.c s)),ai a,ai b,abl rtl,ai base,ai mb,ai all,ai size,.c (.view [[.J e0],[.J e1]]),.c (.view [[.J f0],[.J f1]]),abl turned] (.i (atF s a b rtl base mb all size e0 e1 f0 f1 turned)):=by
 have i0:=gq s a rtl base
 have i1:=gq s b rtl base
 have m0:=dz s.margin a rtl mb
 have m1:=dz s.margin b rtl mb
 unfold atF
 obtain⟨B0,ha⟩:=nmE (ww s a rtl base);(try rw [<-ha]at i0);(try rw [<-ha]at⊢)
 obtain⟨B1,hb⟩:=nmE (ww s b rtl base);(try rw [<-hb]at i1);(try rw [<-hb]at⊢)
 obtain⟨I0,hc⟩:=nmE (wv s a rtl base);(try rw [<-hc]at i0);(try rw [<-hc]at⊢)
 obtain⟨I1,hd⟩:=nmE (wv s b rtl base);(try rw [<-hd]at i1);(try rw [<-hd]at⊢)
 obtain⟨M0,he⟩:=nmE (i9 s.margin a rtl mb);(try rw [<-he]at m0);(try rw [<-he]at⊢)
 obtain⟨M1,hf⟩:=nmE (i9 s.margin b rtl mb);(try rw [<-hf]at m1);(try rw [<-hf]at⊢)
 clear ha hb hc hd he hf
 refine ae (aJ f79) ay func79 fun g F hg hF=> ?_
 cbv
 (repeat'(first|((first|refine ad hg i0 ?_|refine ad hg i1 ?_|refine aa hg m0 ?_|refine aa hg m1 ?_);cbv)|(cases B0<;>cbv)|(cases B1<;>cbv)|(cases turned<;>cbv)|((first|refine goX hg [.J e0] (by decide) rfl rfl ?_|refine goX hg [.J e1] (by decide) rfl rfl ?_|refine goX hg [.J f0] (by decide) rfl rfl ?_|refine goX hg [.J f1] (by decide) rfl rfl ?_);cbv)))
 all_goals exact aV hF (by simp only [aN hg,bZ hg];rfl)
theorem p6(ns:List af)(hl:ns.length<=1048576)(n kid:Int)(x y:af)(h1:isN ns n=true)(h2:isN ns kid=true)(hx:ns[(n-1).toNat]? =some x)(hy:ns[(kid-1).toNat]? =some y)(rtl keeps:Bool)(bx:Bx)(c L:Nat)(hbx:xx (vwA af.ac ns) rtl keeps bx c L kid)(st:St)(hm:st.1.length+c<=L)(hq:st.2.length+c<=L)(wide high:Int):
  SE prog 50 (sR (vwA af.ac ns) rtl keeps) (SM st.1) (SA st.2) [.c (.ptr 0 0 0),ai n,ai kid,ai wide,ai high] (.t (.agg (lc (aM.c (apS bx ns rtl n kid wide high st).1)))) (SM (apS bx ns rtl n kid wide high st).2.1) (SA (apS bx ns rtl n kid wide high st).2.2):=by
 unfold apS
 rw [gU hx,gU hy]
 obtain⟨Kx,ht⟩:=nmE (vw ak x.kids)
 obtain⟨Rx,hv⟩:=nmE (vw aO.c x.table.rules)
 obtain⟨Ky,hu⟩:=nmE (vw ak y.kids)
 obtain⟨Ry,hw⟩:=nmE (vw aO.c y.table.rules)
 have b1:=bq h1
 have b2:=bq h2
 obtain⟨V,hV⟩:=nmE (vwA af.ac ns)
 have cx:=bm ns n x b1.1 (by have:=b1.2.1;omega) hx V Kx Rx hV ht hv
 have cy:=bm ns kid y b2.1 (by have:=b2.2.1;omega) hy V Ky Ry hV hu hw
 rw [<-hV]at hbx⊢
 have cs:=oP x.style y.style wide high rtl
 have cp:=m6 x.style wide high
 obtain⟨W,hW⟩:=nmE (tU x.style wide);(try rw [<-hW]at cs);(try rw [<-hW]at cp);(try rw [<-hW]at⊢)
 obtain⟨H,hH⟩:=nmE (vK x.style high);(try rw [<-hH]at cs);(try rw [<-hH]at cp);(try rw [<-hH]at⊢)
 obtain⟨⟨X0,X1⟩,hX⟩:∃X,X=apX y.style rtl W H:=⟨_,rfl⟩
 obtain⟨⟨Y0,Y1⟩,hY⟩:∃X,X=apY y.style rtl W H:=⟨_,rfl⟩
 rw [<-hX,<-hY]at cs⊢
 have cB:=hbx.2 X0 X1 Y0 Y1 st hm hq
 obtain⟨q,hq⟩:=nmE (bx kid ⟨X0,X1⟩ ⟨Y0,Y1⟩ st)
 rw [<-hq]at cB⊢
 rw [acE]at cB
 dsimp only
 unfold apF
 rw [<-hW,<-hH]
 have pM:=bU st.1
 have pA:=bV st.2
 have hi:=bU q.2.1
 have hh:=bV q.2.2
 obtain⟨M0,he⟩:=nmE (SM st.1);(try rw [<-he]at cB);(try rw [<-he]at pM);(try rw [<-he]at⊢)
 obtain⟨A0,hb⟩:=nmE (SA st.2);(try rw [<-hb]at cB);(try rw [<-hb]at pA);(try rw [<-hb]at⊢)
 obtain⟨M2,hf⟩:=nmE (SM q.2.1);(try rw [<-hf]at cB);(try rw [<-hf]at hi);(try rw [<-hf]at⊢)
 obtain⟨A2,hc⟩:=nmE (SA q.2.2);(try rw [<-hc]at cB);(try rw [<-hc]at hh);(try rw [<-hc]at⊢)
 obtain⟨FR,hs⟩:=nmE (vw aM.c q.1.frames);(try rw [<-hs]at cB)
 have c1:=cj y.style true W q.1.wide
 have c2:=cj y.style false H q.1.high
 obtain⟨fw,ho⟩:=nmE (ly y.style true W q.1.wide);(try rw [<-ho]at c1);(try rw [<-ho]at⊢)
 obtain⟨fh,hn⟩:=nmE (ly y.style false H q.1.high);(try rw [<-hn]at c2);(try rw [<-hn]at⊢)
 have cF:=fo x.style
 obtain⟨⟨r0,r1,r2,r3⟩,hr⟩:∃q,q=lw x.style:=⟨_,rfl⟩
 rw [<-hr]at cF⊢
 have a1:=oB y.style 0 2 rtl W W wide fw x.style.border.left x.style.border.right r0 r2 rtl
 have a2:=oB y.style 1 3 rtl H W high fh x.style.border.top x.style.border.bottom r1 r3 false
 dsimp only
 obtain⟨P1,hj⟩:=nmE (atF y.style 0 2 rtl W W wide fw x.style.border.left x.style.border.right r0 r2 rtl);(try rw [<-hj]at a1);(try rw [<-hj]at⊢)
 obtain⟨P2,hk⟩:=nmE (atF y.style 1 3 rtl H W high fh x.style.border.top x.style.border.bottom r1 r3 false);(try rw [<-hk]at a2);(try rw [<-hk]at⊢)
 clear hj hk ho hn hs hq hX hY hW hH ht hv hu hw hV hbx he hb hf hc hr
 obtain⟨x0,x1,x2,x3,x4⟩:=x
 obtain⟨y0,y1,y2,y3,y4⟩:=y
 dsimp only at *
 refine dl ([(3,.hand),(9,.hand),(10,.hand)]) ([]) (c:=aJ f50) ay func50 (by kernel_rfl) (by kernel_rfl) (bl (by rfl)) (by kernel_rfl) (fun g hA hd F hz hp hg hF=> ?_)
 cbv
 (repeat'((first|refine ad hg cx ?_|refine ad hg cy ?_);cbv))
 refine dr hg hp ay [0,1,2,3,4,5,6,7,8,9,10,11] (.op 12 [] (.op 13 [] (.op 14 [] (.op 15 [] .done .none) .none) .none) (.op 13 [] (.op 12 [] (.op 14 [] (.op 15 [] .done .none) .none) .none) .none)) (by kernel_rfl) (by kernel_rfl) (S:=Unit) (fun _=>True) (fun _=>[(0,.p 0),(2,.i (kid)),(3,.i (wide)),(4,.i (high)),(10,.p 3),(11,.p 4),(12,.p 5),(13,.p 6),(14,.p 7)]) (fun _=>[.bx 91 5 [.view V,.B rtl,.B keeps,.own 1,.own 2],.rw ⟨157,10,M0⟩,.rw ⟨172,6,A0⟩,.bx 45 5 [.J 0,.J 0,.J 0,.J 0,.J 0],.bx 36 60 (lc (aj.c x2)),.bx 36 60 (lc (aj.c y2)),.bx 122 2 [.J X0,.J X1],.bx 122 2 [.J Y0,.J Y1]]) (fun BL ha=> ?_) (fun _ _=> ?_)
 ·cbv
  ((repeat'(first|exact trivial|exact rfl|refine And.intro ?_ ?_|(refine aa hg cs ?_;cbv))))
  all_goals first
   |exact ha () trivial _ _ (Wk.weak (wkM [some 0,some 1,some 2,some 3,some 4,some 5,some 6,some 7] zr9 ⟨.inr ⟨_,_,rfl,rfl,rfl,rfl,.inr ⟨zr5,trivial⟩⟩,.inr (wqE rfl pM),.inr (wqE rfl pA),.inr (wqE rfl rfl),.inr (wqE rfl rfl),.inr (wqE rfl rfl),.inr (wqE rfl rfl),.inr (wqE rfl rfl),trivial⟩ (by decide) ⟨.inr rfl,.inr rfl,.inr rfl,trivial⟩ ⟨.inr ⟨_,rfl⟩,.inr ⟨_,rfl⟩,.inr ⟨_,rfl⟩,trivial⟩))
   |exact ha () trivial _ _ (Wk.weak (wkM [some 0,some 1,some 2,some 3,some 4,some 5,some 7,some 6] zr9 ⟨.inr ⟨_,_,rfl,rfl,rfl,rfl,.inr ⟨zr5,trivial⟩⟩,.inr (wqE rfl pM),.inr (wqE rfl pA),.inr (wqE rfl rfl),.inr (wqE rfl rfl),.inr (wqE rfl rfl),.inr (wqE rfl rfl),.inr (wqE rfl rfl),trivial⟩ (by decide) ⟨.inr rfl,.inr rfl,.inr rfl,trivial⟩ ⟨.inr ⟨_,rfl⟩,.inr ⟨_,rfl⟩,.inr ⟨_,rfl⟩,trivial⟩))
 cbv
 (repeat'((first|refine ad hg cp ?_|refine aa hg c1 ?_|refine aa hg c2 ?_|refine ad hg cF ?_|refine iP rfl hg 0 1 2 cB rfl rfl rfl (by decide) rfl pM pA ⟨rfl,rfl,.inl ⟨rfl,rfl⟩,.inl ⟨rfl,rfl⟩,trivial⟩ rfl ?_);cbv))
 refine dr hg hp ay [0,1,2,3,4,5,6,7,8,9,10,11,12,13,15,16,17,18,20,21,22,23] (.op 14 [] (.op 19 [24,25] (.op 26 [] .done .none) .none) (.op 19 [] (.op 14 [24,25] (.op 26 [] .done .none) .none) .none)) (by kernel_rfl) (by kernel_rfl) (S:=Unit) (fun _=>True) (fun _=>[(0,.p 0),(4,.i (high)),(10,.p 3),(12,.p 6),(15,.i (W)),(16,.i (H)),(18,.p 7),(19,.p 8),(20,.p 9)]) (fun _=>[.bx 91 5 [.view V,.B rtl,.B keeps,.own 4,.own 5],.gn,.gn,.bx 45 5 [.J 0,.J 0,.J 0,.J 0,.J 0],.rw ⟨157,10,M2⟩,.rw ⟨172,6,A2⟩,.bx 36 60 (lc (aj.c y2)),.bx 34 4 [.J r0,.J r1,.J r2,.J r3],.bx 34 4 [.J x2.border.left,.J x2.border.top,.J x2.border.right,.J x2.border.bottom],.bx 45 5 [.J kid,.J P1,.J 0,.J fw,.J fh]]) (fun BL ha=> ?_) (fun _ _=> ?_)
 ·cbv
  ((repeat'(first|exact trivial|exact rfl|refine And.intro ?_ ?_|(refine dL hg a1 (bB rfl (ah (ao rfl) (ah (ao rfl) (ah (ao rfl) (ah (ao rfl) (ah (ao rfl) (ah (ao rfl) (ah (ao rfl) (ah (aZ (ab:=⟨_,_,[[.imm (.int .i64 x2.border.left)],[.imm (.int .i64 x2.border.right)]]⟩) rfl (fun x hx=>by simp only [List.mem_cons,List.not_mem_nil,or_false]at hx;rcases hx with rfl|rfl<;>rfl) (fun x hx=>by simp only [List.mem_cons,List.not_mem_nil,or_false]at hx;rcases hx with rfl|rfl<;>rfl)) (ah (aZ (ab:=⟨_,_,[[.imm (.int .i64 r0)],[.imm (.int .i64 r2)]]⟩) rfl (fun x hx=>by simp only [List.mem_cons,List.not_mem_nil,or_false]at hx;rcases hx with rfl|rfl<;>rfl) (fun x hx=>by simp only [List.mem_cons,List.not_mem_nil,or_false]at hx;rcases hx with rfl|rfl<;>rfl)) (ah (ao rfl) (av)))))))))))) rfl ?_;cbv))))
  all_goals exact ha () trivial _ _ (Wk.weak (wkM [some 0,none,none,some 3,some 8,some 9,some 5,some 11,some 12,some 13] zr9 ⟨.inr ⟨_,_,rfl,rfl,rfl,rfl,.inr ⟨zr5,trivial⟩⟩,.inl rfl,.inl rfl,.inr (wqE rfl rfl),.inr (wqE rfl hi),.inr (wqE rfl hh),.inr (wqE rfl rfl),.inr (wqE rfl rfl),.inr (wqE rfl rfl),.inr (wqE rfl rfl),trivial⟩ (by decide) ⟨.inl rfl,.inl rfl,.inr rfl,trivial⟩ ⟨.inl rfl,.inl rfl,.inr ⟨_,rfl⟩,trivial⟩))
 cbv
 refine dr hg hp ay [0,1,2,3,4,5,6,7,8,9,10,11,12,13,15,16,17,18] (.op 14 [] (.op 19 [20,21] (.op 22 [] .done .none) .none) (.op 19 [] (.op 14 [20,21] (.op 22 [] .done .none) .none) .none)) (by kernel_rfl) (by kernel_rfl) (S:=Unit) (fun _=>True) (fun _=>[(0,.p 0),(10,.p 3),(20,.p 6)]) (fun _=>[.bx 91 5 [.view V,.B rtl,.B keeps,.own 4,.own 5],.gn,.gn,.bx 45 5 [.J 0,.J 0,.J 0,.J 0,.J 0],.rw ⟨157,10,M2⟩,.rw ⟨172,6,A2⟩,.bx 45 5 [.J kid,.J P1,.J P2,.J fw,.J fh]]) (fun BL ha=> ?_) (fun _ _=> ?_)
 ·cbv
  ((repeat'(first|exact trivial|exact rfl|refine And.intro ?_ ?_|(refine dL hg a2 (bB rfl (ah (ao rfl) (ah (ao rfl) (ah (ao rfl) (ah (ao rfl) (ah (ao rfl) (ah (ao rfl) (ah (ao rfl) (ah (aZ (ab:=⟨_,_,[[.imm (.int .i64 x2.border.top)],[.imm (.int .i64 x2.border.bottom)]]⟩) rfl (fun x hx=>by simp only [List.mem_cons,List.not_mem_nil,or_false]at hx;rcases hx with rfl|rfl<;>rfl) (fun x hx=>by simp only [List.mem_cons,List.not_mem_nil,or_false]at hx;rcases hx with rfl|rfl<;>rfl)) (ah (aZ (ab:=⟨_,_,[[.imm (.int .i64 r1)],[.imm (.int .i64 r3)]]⟩) rfl (fun x hx=>by simp only [List.mem_cons,List.not_mem_nil,or_false]at hx;rcases hx with rfl|rfl<;>rfl) (fun x hx=>by simp only [List.mem_cons,List.not_mem_nil,or_false]at hx;rcases hx with rfl|rfl<;>rfl)) (ah (ao rfl) (av)))))))))))) rfl ?_;cbv))))
  all_goals exact ha () trivial _ _ (Wk.weak (wkM [some 0,none,none,some 3,some 4,some 5,some 9] zr3 ⟨.inr ⟨_,_,rfl,rfl,rfl,rfl,.inr ⟨zr5,trivial⟩⟩,.inl rfl,.inl rfl,.inr (wqE rfl rfl),.inr (wqE rfl hi),.inr (wqE rfl hh),.inr (wqE rfl rfl),trivial⟩ (by decide) ⟨.inl rfl,.inl rfl,.inr rfl,trivial⟩ ⟨.inl rfl,.inl rfl,.inr ⟨_,rfl⟩,trivial⟩))
 cbv
 exact qP 4 5 hF rfl rfl rfl rfl rfl (by decide) rfl hi hh
theorem n3(ns:List af)(hl:ns.length<=1048576)(hs:∀y∈ns,af.small y)(n kid wide high:Int)(rtl:Bool):PC0 16 [.agg [.view (vwA af.ac ns)],ai n,ai kid,ai wide,ai high,abl rtl] (.t (.agg (lc (aM.c (afO ns n kid wide high rtl))))):=by
 have cO:=vf ns hl hs n wide high
 have hb:xu ns n kid wide high=false->lc (aM.c (afO ns n kid wide high rtl))=[.J 0,.J 0,.J 0,.J 0,.J 0]:=fun h=>by unfold afO;rw [if_pos h];rfl
 cases hO:(eo ns&&(rng n 1 (ns.length:Int)&&(rng wide 0 1048576&&rng high 0 1048576)))
 case false=>
  have hn:xu ns n kid wide high=false:=by
   cases hh:xu ns n kid wide high
   ·rfl
   ·simp only [xu,zqs]at hh
    simp only [hh,Bool.and_self]at hO
    cases hO
  rw [hb hn]
  rw [hO]at cO
  obtain⟨V,hV⟩:=nmE (vwA af.ac ns)
  rw [<-hV]at cO⊢
  clear hb hn
  refine ae (aJ f16) ay func16 fun g F hg hF=> ?_
  cbv
  repeat'(refine ad hg cO ?_;cbv)
  exact fg hF rfl ⟨rfl,rfl⟩
 rw [hO]at cO
 simp only [zqs]at hO
 obtain⟨hT,hI,hS,hS2⟩:=hO
 obtain⟨n1,n2,x,hx⟩:=bq (ns:=ns) (n:=n) hI
 have ha:=io hT n1 hx
 have hp:=sD x (hs x (zqd hx))
 have cK:=pp (o1 ns n x hs hT hl n1 n2 hx hp ha) (BH (c:=ak) (k:=1) fun _=>rfl) pJ
 have hk:apK ns n=x.kids.filter (jL ns):=by simp only [apK,oh,hx]
 have hi:(x.kids.filter (jL ns)).length<=1048576:=Nat.le_trans (List.length_filter_le _ _) hp
 have cH:=jz (x.kids.filter (jL ns)) kid hi
 obtain⟨G,hG⟩:=nmE (vw ak (x.kids.filter (jL ns)))
 have hu:G.length=(x.kids.filter (jL ns)).length:=by rw [hG,aq]
 have iG:=imV hG
 have kG:=kmV (k:=1) hG fun _=>rfl
 have dG:=dmV hG
 rw [<-hG]at cK cH
 rw [<-hk]at cH
 have hc:=EG (apK ns n) kid
 obtain⟨C,hC⟩:=nmE (cnt (apK ns n) kid)
 rw [<-hC]at cH hc
 cases hH:v8 (apK ns n) kid
 case false=>
  rw [hb (by simp [xu,hH])]
  rw [hH]at hc
  obtain⟨V,hV⟩:=nmE (vwA af.ac ns)
  rw [<-hV]at cO cK⊢
  clear hb hG hk hC
  refine ae (aJ f16) ay func16 fun g F hg hF=> ?_
  have e:g .q .eql C 0=true:=by rw [bj hg];simpa using hc
  cbv
  (repeat'((first|rw [e]|refine ad hg cO ?_|refine ad hg cK ?_|refine ad hg cH ?_);cbv))
  exact fg hF rfl ⟨rfl,rfl⟩
 rw [hH]at hc
 have hm:=ha kid (DG hx hH)
 obtain⟨m1,m2,y,hy⟩:=bq hm
 have hq:xu ns n kid wide high=true:=by simp only [xu,hT,hI,hH,hS,hS2,Bool.and_self]
 have ho:=D9 hl hs hT rtl hm
 have ca:=p6 ns hl n kid x y hI hm hx hy rtl false (xn false ns rtl 4) 65641 1073741824 ho st0 (by decide) (by decide) wide high
 rw [EM (yC ns rtl 4),SM0,SA0]at ca
 have e:afO ns n kid wide high rtl=apG (zx ns rtl 4) ns rtl n kid wide high:=by unfold afO;rw [if_neg (by rw [hq];simp)]
 rw [e]
 clear e hb
 obtain⟨he,hd⟩:=nmE ((apS (xn false ns rtl 4) ns rtl n kid wide high st0).2)
 rw [<-hd]at ca
 have ht:=bU he.1
 have hr:=bV he.2
 obtain⟨M2,hj⟩:=nmE (SM he.1);(try rw [<-hj]at ca);(try rw [<-hj]at ht)
 obtain⟨A2,hf⟩:=nmE (SA he.2);(try rw [<-hf]at ca);(try rw [<-hf]at hr)
 obtain⟨X,hX⟩:=nmE (apG (zx ns rtl 4) ns rtl n kid wide high)
 rw [<-hX]at ca⊢
 obtain⟨X0,X1,X2,X3,X4⟩:=X
 obtain⟨V,hV⟩:=nmE (vwA af.ac ns)
 rw [<-hV]at cO cK ca⊢
 clear hG hk hX hd hj hf hV hC ho
 refine ae (aJ f16) ay func16 fun g F hg hF=> ?_
 have e:g .q .eql C 0=false:=by rw [bj hg];simpa using hc
 cbv
 (repeat'((first|rw [e]|refine ad hg cO ?_|refine ad hg cK ?_|refine ad hg cH ?_);cbv))
 refine EI rfl hg 3 rfl [.bx 28 1 [.view V],.bx 45 5 [.J 0,.J 0,.J 0,.J 0,.J 0],.bx 91 5 [.view V,.B rtl,.B false,.own 3,.own 4],.rw ⟨157,10,[]⟩,.rw ⟨172,6,[]⟩] [.c (.ptr 2 0 0),ai n,ai kid,ai wide,ai high] [some 0,some 1,some 2,none,none] (wkM [some 0,some 1,some 2,none,none] ⟨zr5,trivial⟩ ⟨.inr (wqE rfl rfl),.inr (wqE rfl rfl),.inr ⟨_,_,rfl,rfl,rfl,rfl,.inr ⟨zr5,trivial⟩⟩,.inr ⟨_,rfl,rfl⟩,.inr ⟨_,rfl,rfl⟩,trivial⟩ (by decide) ⟨.inr rfl,.inr rfl,.inr rfl,trivial⟩ ⟨.inr ⟨_,rfl⟩,.inr ⟨_,rfl⟩,.inr ⟨_,rfl⟩,trivial⟩) ?_
 (refine iP rfl hg 2 3 4 ca rfl rfl rfl (by decide) rfl rfl rfl zr5 rfl ?_;cbv)
 exact fg hF rfl ⟨rfl,rfl⟩
theorem jn(x:kr)(hf:x.fit)(n kid wide high:Int)(rtl:Bool):PC0 4 [.agg x.ac,ai n,ai kid,ai wide,ai high,abl rtl] (.t (abl true)):=by
 have cz:=ui x 1048576 hf (by decide) (by decide)
 have ct:=fun hs=>ue x hs
 have ce:=fun hs=>ul x hs
 have sm:x.small->x.nodes.length<=1048576/\∀y∈x.nodes,af.small y:=fun h=>by obtain⟨ns⟩:=x;exact⟨h.1,h.2.1⟩
 have cs:=fun hs:x.small=>n3 x.nodes (sm hs).1 (sm hs).2 n kid wide high rtl
 have ci:=fun hs:x.small=>om x.nodes (sm hs).1 (sm hs).2 n kid wide high rtl
 obtain⟨S,hS⟩:∃S:Prop,S=x.small:=⟨_,rfl⟩
 obtain⟨X,hX⟩:=nmE (afO x.nodes n kid wide high rtl)
 have eg:=r7 X X
 rw [zqu rfl]at eg
 have ha:x.ac=[.view (vwA af.ac x.nodes)]:=by obtain⟨ns⟩:=x;rfl
 rw [<-hS]at cz ct ce cs ci
 rw [<-hX]at cs ci
 rw [ha]at cz ct ce⊢
 obtain⟨V,hV⟩:=nmE (vwA af.ac x.nodes)
 rw [<-hV]at cz ct ce cs ci⊢
 obtain⟨X0,X1,X2,X3,X4⟩:=X
 clear hS hX ha hV sm hf
 refine ae (aJ Tryz.f4) ay Tryz.func4 fun g F hg hF=> ?_
 cbv
 refine zl hg cz rfl (fun Z hZ=> ?_)
 obtain⟨_,hZ⟩:=hZ
 cbv
 cases e:g .q .lss Z 0
 case true=>
  cbv
  exact bk hF rfl
 rw [bh hg,zqo]at e
 have hs:=hZ (by omega)
 replace ct:=ct hs
 replace ce:=ce hs
 replace cs:=cs hs
 replace ci:=ci hs
 cbv
 (repeat'((first|refine ad hg ct ?_|refine aa hg ct ?_|refine ad hg cs ?_|refine ad hg ci ?_|refine ad hg eg ?_|refine aa hg ce ?_);cbv))
 exact bk hF rfl
end Go.Proofs.YtckchgoblpgpbaaGreat
