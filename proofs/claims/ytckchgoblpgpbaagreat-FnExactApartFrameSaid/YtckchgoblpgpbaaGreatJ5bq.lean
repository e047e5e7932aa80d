/- The reference's items of the children. -/
import Derived.Test.YtckchgoblpgpbaaGreatJ5bp
set_option linter.unusedVariables false
set_option linter.unusedSimpArgs false
set_option maxHeartbeats 16000000
namespace Go.Proofs.YtckchgoblpgpbaaGreat
open Go.ChangeShapes Go.WideShapes Go.ChangeAt Go.RowKit Am Go.Proofs.Tryz
set_option maxRecDepth 100000
theorem nz(ns:List af)(hl:ns.length<=1048576)(n kid:Int)(x y:af)(h1:isN ns n=true)(h2:isN ns kid=true)(hx:ns[(n-1).toNat]? =some x)(hy:ns[(kid-1).toNat]? =some y)(rtl:Bool)(b:Bv)(hbx:wt (vwA af.ac ns) rtl b kid)(wide high:Int):PC0 55 [.agg (mo (vwA af.ac ns) rtl),ai n,ai kid,ai wide,ai high] (.t (.agg (lc (aM.c (apG b ns rtl n kid wide high))))):=by
 have ca:=qI ns n kid x y hl h1 h2 hx hy rtl wide high
 unfold apG
 rw [gU hx,gU hy]
 obtain⟨p,hp⟩:=nmE x.style
 obtain⟨s,hs⟩:=nmE y.style
 rw [<-hp,<-hs]at ca⊢
 unfold apF atF
 obtain⟨V,hV⟩:=nmE (vwA af.ac ns)
 rw [<-hV]at hbx ca⊢
 obtain⟨W,hW⟩:=nmE (tU p wide);(try rw [<-hW]at ca);(try rw [<-hW]at⊢)
 obtain⟨H,hH⟩:=nmE (vK p high);(try rw [<-hH]at ca);(try rw [<-hH]at⊢)
 have cs:=sv p s rtl W H
 obtain⟨⟨X0,X1⟩,hX⟩:∃X,X=apX s rtl W H:=⟨_,rfl⟩
 obtain⟨⟨Y0,Y1⟩,hY⟩:∃X,X=apY s rtl W H:=⟨_,rfl⟩
 rw [<-hX,<-hY]at cs⊢
 have cB:=hbx X0 X1 Y0 Y1
 obtain⟨q,hq⟩:=nmE (b kid ⟨X0,X1⟩ ⟨Y0,Y1⟩)
 rw [<-hq]at cB⊢
 rw [show ju.ac q=[.J q.wide,.J q.high,.J q.base,.view (vw aM.c q.frames)]from rfl]at cB
 obtain⟨FR,hw⟩:=nmE (vw aM.c q.frames);(try rw [<-hw]at cB)
 have c1:=dx s true W q.wide
 have c2:=dx s false H q.high
 obtain⟨fw,hu⟩:=nmE (ly s true W q.wide);(try rw [<-hu]at c1);(try rw [<-hu]at⊢)
 obtain⟨fh,ht⟩:=nmE (ly s false H q.high);(try rw [<-ht]at c2);(try rw [<-ht]at⊢)
 have cF:=eU p
 obtain⟨⟨r0,r1,r2,r3⟩,hr⟩:∃q,q=lw p:=⟨_,rfl⟩
 rw [<-hr]at cF⊢
 have i0:=ii p s rtl W H 0 (.inl rfl)
 have i2:=ii p s rtl W H 2 (.inr rfl)
 have i1:=ig p s rtl W H 1 (.inl rfl)
 have i3:=ig p s rtl W H 3 (.inr rfl)
 have m0:=bL p s rtl W H 0
 have m1:=bL p s rtl W H 1
 have m2:=bL p s rtl W H 2
 have m3:=bL p s rtl W H 3
 obtain⟨B0,ha⟩:=nmE (ww s 0 rtl W);(try rw [<-ha]at i0);(try rw [<-ha]at⊢)
 obtain⟨B1,hb⟩:=nmE (ww s 1 rtl H);(try rw [<-hb]at i1);(try rw [<-hb]at⊢)
 obtain⟨B2,hc⟩:=nmE (ww s 2 rtl W);(try rw [<-hc]at i2);(try rw [<-hc]at⊢)
 obtain⟨B3,he⟩:=nmE (ww s 3 rtl H);(try rw [<-he]at i3);(try rw [<-he]at⊢)
 obtain⟨I0,hf⟩:=nmE (wv s 0 rtl W);(try rw [<-hf]at i0);(try rw [<-hf]at⊢)
 obtain⟨I1,hh⟩:=nmE (wv s 1 rtl H);(try rw [<-hh]at i1);(try rw [<-hh]at⊢)
 obtain⟨I2,hi⟩:=nmE (wv s 2 rtl W);(try rw [<-hi]at i2);(try rw [<-hi]at⊢)
 obtain⟨I3,hj⟩:=nmE (wv s 3 rtl H);(try rw [<-hj]at i3);(try rw [<-hj]at⊢)
 obtain⟨M0,hk⟩:=nmE (i9 s.margin 0 rtl W);(try rw [<-hk]at m0);(try rw [<-hk]at⊢)
 obtain⟨M1,hm⟩:=nmE (i9 s.margin 1 rtl W);(try rw [<-hm]at m1);(try rw [<-hm]at⊢)
 obtain⟨M2,hn⟩:=nmE (i9 s.margin 2 rtl W);(try rw [<-hn]at m2);(try rw [<-hn]at⊢)
 obtain⟨M3,ho⟩:=nmE (i9 s.margin 3 rtl W);(try rw [<-ho]at m3);(try rw [<-ho]at⊢)
 clear ha hb hc he hf hh hi hj hk hm hn ho hr hu ht hw hq hX hY hW hH hp hs hbx hV
 dsimp only at *
 refine k8 ([(5,.hand)]) ([]) (c:=aJ f55) ay func55 (by kernel_rfl) (by kernel_rfl) (by rfl) (by kernel_rfl) fun g hB hd F hz hA hg hF=> ?_
 cbv
 (repeat'((first|refine ad hg ca ?_|refine ad hg cs ?_|refine ad hg cB ?_|refine aa hg c1 ?_|refine aa hg c2 ?_);cbv))
 refine dr hg hA ay [0,1,2,3,4,5] (.op 6 [] (.op 7 [] (.op 8 [] (.op 9 [] .done .none) .none) .none) (.op 7 [] (.op 6 [] (.op 8 [] (.op 9 [] .done .none) .none) .none) .none)) (by kernel_rfl) (by kernel_rfl) (S:=Unit) (fun _=>True) (fun _=>[(3,.i (wide)),(4,.i (high)),(5,.p 0),(10,.p 1),(11,.p 2),(15,.p 3),(16,.p 4),(17,.p 5)]) (fun _=>[.bx 76 3 (mo V rtl),.bx 45 5 [.J 0,.J 0,.J 0,.J 0,.J 0],.bx 134 123 (apC p s rtl W H),.bx 45 5 [.J kid,.J 0,.J 0,.J fw,.J fh],.bx 34 4 [.J p.border.left,.J p.border.top,.J p.border.right,.J p.border.bottom],.bx 34 4 [.J r0,.J r1,.J r2,.J r3]]) (fun BL hv=> ?_) (fun _ _=> ?_)
 ·cbv
  ((repeat'(first|exact trivial|exact rfl|refine And.intro ?_ ?_|(refine aa hg cF ?_;cbv))))
  all_goals first
   |exact hv () trivial _ _ (Wk.weak (wkG [some 0,some 1,some 2,some 6,some 7,some 8] zr8 ⟨wqE rfl rfl,wqE rfl rfl,wqE rfl rfl,wqE rfl rfl,wqE rfl rfl,wqE rfl rfl,trivial⟩ (by decide) aD))
   |exact hv () trivial _ _ (Wk.weak (wkG [some 0,some 1,some 2,some 6,some 8,some 7] zr8 ⟨wqE rfl rfl,wqE rfl rfl,wqE rfl rfl,wqE rfl rfl,wqE rfl rfl,wqE rfl rfl,trivial⟩ (by decide) aD))
 cbv
 (repeat'(first|((first|refine ad hg i0 ?_|refine ad hg i1 ?_|refine ad hg i2 ?_|refine ad hg i3 ?_|refine aa hg m0 ?_|refine aa hg m1 ?_|refine aa hg m2 ?_|refine aa hg m3 ?_);cbv)|(cases B0<;>cbv)|(cases B1<;>cbv)|(cases B2<;>cbv)|(cases B3<;>cbv)|(cases rtl<;>cbv)))
 all_goals exact fg hF rfl ⟨by simp only [aN hg,bZ hg];rfl,rfl⟩
theorem om(ns:List af)(hl:ns.length<=1048576)(hs:∀y∈ns,af.small y)(n kid wide high:Int)(rtl:Bool):PC0 18 [.agg [.view (vwA af.ac ns)],ai n,ai kid,ai wide,ai high,abl rtl] (.t (.agg (lc (aM.c (afO ns n kid wide high rtl))))):=by
 have cT:=uA ns hl hs
 have hc:aX (vwA af.ac ns)=(ns.length:Int):=by rw [az,bC]
 have cI:=jM (vwA af.ac ns) n
 rw [hc]at cI
 have cz:=qJ wide high
 have ha:xu ns n kid wide high=false->lc (aM.c (afO ns n kid wide high rtl))=[.J 0,.J 0,.J 0,.J 0,.J 0]:=fun h=>by unfold afO;rw [if_pos h];rfl
 cases hT:eo ns
 case false=>
  rw [ha (by simp [xu,hT])]
  rw [hT]at cT
  obtain⟨V,hV⟩:=nmE (vwA af.ac ns)
  rw [<-hV]at cT⊢
  clear cI hc ha
  refine ae (aJ f18) ay func18 fun g F hg hF=> ?_
  cbv
  repeat'(refine ad hg cT ?_;cbv)
  exact fg hF rfl ⟨rfl,rfl⟩
 rw [hT]at cT
 cases hI:rng n 1 (ns.length:Int)
 case false=>
  rw [ha (by simp [xu,hI])]
  rw [hI]at cI
  obtain⟨V,hV⟩:=nmE (vwA af.ac ns)
  rw [<-hV]at cT cI⊢
  clear hc ha
  refine ae (aJ f18) ay func18 fun g F hg hF=> ?_
  cbv
  repeat'((first|refine ad hg cT ?_|refine ad hg cI ?_);cbv)
  exact fg hF rfl ⟨rfl,rfl⟩
 rw [hI]at cI
 obtain⟨n1,n2,x,hx⟩:=bq (ns:=ns) (n:=n) hI
 have hb:=io hT n1 hx
 have hh:=sD x (hs x (zqd hx))
 have cK:=pb ns n x hl n1 (by omega) hx hh hb
 have hd:apK ns n=x.kids.filter (jL ns):=by simp only [apK,oh,hx]
 have hf:(x.kids.filter (jL ns)).length<=1048576:=Nat.le_trans (List.length_filter_le _ _) hh
 have cH:=uy (x.kids.filter (jL ns)) kid hf
 obtain⟨G,hG⟩:=nmE (vw ak (x.kids.filter (jL ns)))
 have hj:G.length=(x.kids.filter (jL ns)).length:=by rw [hG,aq]
 have iG:=imV hG
 have kG:=kmV (k:=1) hG fun _=>rfl
 have dG:=dmV hG
 rw [<-hG]at cK cH
 rw [<-hd]at cH
 cases hH:v8 (apK ns n) kid
 case false=>
  rw [ha (by simp [xu,hH])]
  rw [hH]at cH
  obtain⟨V,hV⟩:=nmE (vwA af.ac ns)
  rw [<-hV]at cT cI cK⊢
  clear hc ha hG hd
  refine ae (aJ f18) ay func18 fun g F hg hF=> ?_
  cbv
  repeat'((first|refine ad hg cT ?_|refine ad hg cI ?_);cbv)
  repeat'((first|refine bE hg cK (bp rfl) iG ?_|refine fJ hg cH (ah (aZ (ab:=⟨_,_,G⟩) rfl kG dG) (ah (ao rfl) (av))) rfl ?_);cbv)
  exact fg hF rfl ⟨rfl,rfl⟩
 rw [hH]at cH
 cases hS:(rng wide 0 1048576&&rng high 0 1048576)
 case false=>
  rw [ha (by simp only [xu,hS,Bool.and_false])]
  rw [hS]at cz
  obtain⟨V,hV⟩:=nmE (vwA af.ac ns)
  rw [<-hV]at cT cI cK⊢
  clear hc ha hG hd
  refine ae (aJ f18) ay func18 fun g F hg hF=> ?_
  cbv
  repeat'((first|refine ad hg cT ?_|refine ad hg cI ?_);cbv)
  repeat'((first|refine bE hg cK (bp rfl) iG ?_|refine fJ hg cH (ah (aZ (ab:=⟨_,_,G⟩) rfl kG dG) (ah (ao rfl) (av))) rfl ?_|refine ad hg cz ?_);cbv)
  exact fg hF rfl ⟨rfl,rfl⟩
 rw [hS]at cz
 have he:=hb kid (DG hx hH)
 obtain⟨m1,m2,y,hy⟩:=bq he
 have hi:xu ns n kid wide high=true:=by simp only [xu,hT,hI,hH,hS,Bool.and_self]
 have ca:=nz ns hl n kid x y hI he hx hy rtl (zx ns rtl 4) (ud hl hs hT rtl 4 kid he (by have:=mU hT he;omega)) wide high
 have e:afO ns n kid wide high rtl=apG (zx ns rtl 4) ns rtl n kid wide high:=by unfold afO;rw [if_neg (by rw [hi];simp)]
 rw [e]
 clear e ha
 obtain⟨X,hX⟩:=nmE (apG (zx ns rtl 4) ns rtl n kid wide high)
 rw [<-hX]at ca⊢
 obtain⟨X0,X1,X2,X3,X4⟩:=X
 obtain⟨V,hV⟩:=nmE (vwA af.ac ns)
 rw [<-hV]at cT cI cK ca⊢
 clear hc hG hd hX
 refine ae (aJ f18) ay func18 fun g F hg hF=> ?_
 cbv
 repeat'((first|refine ad hg cT ?_|refine ad hg cI ?_);cbv)
 repeat'((first|refine bE hg cK (bp rfl) iG ?_|refine fJ hg cH (ah (aZ (ab:=⟨_,_,G⟩) rfl kG dG) (ah (ao rfl) (av))) rfl ?_|refine ad hg cz ?_|refine ad hg ca ?_);cbv)
 exact fg hF rfl ⟨rfl,rfl⟩
def sR(V:LLA)(rtl keeps:Bool):S3K:=⟨91,5,[.view V,.B rtl,.B keeps],157,10,172,6⟩
def SM(ms:List oz):LLA:=vwA oz.ac ms
def SA(qs:List km):LLA:=vw km.c qs
theorem bU(ms:List oz):aC (SM ms)=true:=kx (c:=oz.ac) (fun x=>by obtain⟨a,⟨b,c⟩,⟨d,e⟩,f,⟨i,j,k,l⟩⟩:=x;rfl) ms
theorem GW(ms:List oz):∀y∈SM ms,y.length=10:=yN (c:=oz.ac) (fun x=>by obtain⟨a,⟨b,c⟩,⟨d,e⟩,f,⟨i,j,k,l⟩⟩:=x;rfl)
theorem yJ(ms:List oz):∀y∈SM ms,y.all dat=true:=nS (c:=oz.ac) (fun x=>by obtain⟨a,⟨b,c⟩,⟨d,e⟩,f,⟨i,j,k,l⟩⟩:=x;rfl)
theorem bV(qs:List km):aC (SA qs)=true:=aF _ _
theorem yK(qs:List km):∀y∈SA qs,y.all dat=true:=pJ
theorem GX(qs:List km):∀y∈SA qs,y.length=6:=BH (c:=km.c) fun _=>rfl
def xx(V:LLA)(rtl keeps:Bool)(bx:Bx)(c L:Nat)(kid:Int):Prop:=(∀w h st,(bx kid w h st).2.1.length<=st.1.length+c/\(bx kid w h st).2.2.length<=st.2.length+c)/\
 ∀(w0 w1 h0 h1:Int)(st:St),st.1.length+c<=L->st.2.length+c<=L->
  SE prog 76 (sR V rtl keeps) (SM st.1) (SA st.2) [.c (.ptr 0 0 0),ai kid,agP ⟨w0,w1⟩,agP ⟨h0,h1⟩] (.t (.agg (ju.ac (bx kid ⟨w0,w1⟩ ⟨h0,h1⟩ st).1))) (SM (bx kid ⟨w0,w1⟩ ⟨h0,h1⟩ st).2.1) (SA (bx kid ⟨w0,w1⟩ ⟨h0,h1⟩ st).2.2)
theorem acE(q:ju):ju.ac q=[.J q.wide,.J q.high,.J q.base,.view (vw aM.c q.frames)]:=rfl
variable {rtl keeps:Bool}
theorem xt{V:LLA}{bx:Bx}{c L:Nat}{kid:Int}(hb:xx V rtl keeps bx c L kid)(row:Bool)(al ac:aI)(st:St):(ta bx row kid al ac st).2.1.length<=st.1.length+c/\(ta bx row kid al ac st).2.2.length<=st.2.length+c:=by
 unfold ta
 split<;>exact hb.1 ..
theorem mW(V:LLA)(rtl keeps:Bool)(bx:Bx)(c L:Nat)(kid:Int)(hb:xx V rtl keeps bx c L kid)(n:Int)(s:aj)(row:Bool)(al ac:aI)(kn:Int)(K:LLA)(a0 a1 c0 c1:Int)(st:St)(hm:st.1.length+c<=L)(hq:st.2.length+c<=L):
  SE prog 263 (sR V rtl keeps) (SM st.1) (SA st.2) [.c (.ptr 0 0 0),.agg (nwL n s row al ac kn (.view K)),ai kid,agP ⟨a0,a1⟩,agP ⟨c0,c1⟩] (.t (.agg (ju.ac (ta bx row kid ⟨a0,a1⟩ ⟨c0,c1⟩ st).1))) (SM (ta bx row kid ⟨a0,a1⟩ ⟨c0,c1⟩ st).2.1) (SA (ta bx row kid ⟨a0,a1⟩ ⟨c0,c1⟩ st).2.2):=by
 have ha:=hb.2 a0 a1 c0 c1 st hm hq
 have hc:=hb.2 c0 c1 a0 a1 st hm hq
 unfold ta
 have pM:=bU st.1
 have pA:=bV st.2
 obtain⟨r1,hr1⟩:=nmE (bx kid ⟨a0,a1⟩ ⟨c0,c1⟩ st)
 obtain⟨r2,hn⟩:=nmE (bx kid ⟨c0,c1⟩ ⟨a0,a1⟩ st)
 rw [<-hr1]at ha
 rw [<-hn]at hc
 rw [<-hr1,<-hn]
 rw [acE]at ha hc
 clear hr1 hn hb
 cases row
 ·simp only [Bool.false_eq_true,if_false]
  rw [acE]
  have hk:=bU r2.2.1
  have hj:=bV r2.2.2
  obtain⟨F2,hi⟩:=nmE (vw aM.c r2.1.frames);(try rw [<-hi]at hc);(try rw [<-hi]at⊢)
  obtain⟨M,hM⟩:=nmE (SM st.1);(try rw [<-hM]at hc);(try rw [<-hM]at pM);(try rw [<-hM]at⊢)
  obtain⟨A0,he⟩:=nmE (SA st.2);(try rw [<-he]at hc);(try rw [<-he]at pA);(try rw [<-he]at⊢)
  obtain⟨M2,hh⟩:=nmE (SM r2.2.1);(try rw [<-hh]at hc);(try rw [<-hh]at hk);(try rw [<-hh]at⊢)
  obtain⟨A2,hf⟩:=nmE (SA r2.2.2);(try rw [<-hf]at hc);(try rw [<-hf]at hj);(try rw [<-hf]at⊢)
  refine dl ([]) ([]) (c:=aJ f263) ay func263 (by kernel_rfl) (by kernel_rfl) (bl (by rfl)) (by kernel_rfl) (fun g ho hd F hl hp hg hF=> ?_)
  cbv
  (refine iP rfl hg 0 1 2 hc rfl rfl rfl (by decide) rfl pM pA ⟨rfl,rfl,.inl ⟨rfl,rfl⟩,.inl ⟨rfl,rfl⟩,trivial⟩ rfl ?_;cbv)
  exact qP 7 8 hF rfl rfl rfl rfl rfl (by decide) rfl hk hj
 ·simp only [if_true]
  rw [acE]
  have hk:=bU r1.2.1
  have hj:=bV r1.2.2
  obtain⟨F2,hi⟩:=nmE (vw aM.c r1.1.frames);(try rw [<-hi]at ha);(try rw [<-hi]at⊢)
  obtain⟨M,hM⟩:=nmE (SM st.1);(try rw [<-hM]at ha);(try rw [<-hM]at pM);(try rw [<-hM]at⊢)
  obtain⟨A0,he⟩:=nmE (SA st.2);(try rw [<-he]at ha);(try rw [<-he]at pA);(try rw [<-he]at⊢)
  obtain⟨M2,hh⟩:=nmE (SM r1.2.1);(try rw [<-hh]at ha);(try rw [<-hh]at hk);(try rw [<-hh]at⊢)
  obtain⟨A2,hf⟩:=nmE (SA r1.2.2);(try rw [<-hf]at ha);(try rw [<-hf]at hj);(try rw [<-hf]at⊢)
  refine dl ([]) ([]) (c:=aJ f263) ay func263 (by kernel_rfl) (by kernel_rfl) (bl (by rfl)) (by kernel_rfl) (fun g ho hd F hl hp hg hF=> ?_)
  cbv
  (refine iP rfl hg 0 1 2 ha rfl rfl rfl (by decide) rfl pM pA ⟨rfl,rfl,.inl ⟨rfl,rfl⟩,.inl ⟨rfl,rfl⟩,trivial⟩ rfl ?_;cbv)
  exact qP 7 8 hF rfl rfl rfl rfl rfl (by decide) rfl hk hj
theorem rx(ns:List af)(hl:ns.length<=1048576)(kid:Int)(y:af)(h1:isN ns kid=true)(hy:ns[(kid-1).toNat]? =some y)(rtl keeps:Bool)(bx:Bx)(c L:Nat)(hbx:xx (vwA af.ac ns) rtl keeps bx c L kid)(n:Int)(p:Pl)(K:LLA)(st:St)(hm:st.1.length+c<=L)(hq:st.2.length+c<=L):
  SE prog 256 (sR (vwA af.ac ns) rtl keeps) (SM st.1) (SA st.2) [.c (.ptr 0 0 0),.agg (nwL n p.s p.row p.al p.ac (knS p.wide) (.view K)),ai kid] (.t (ai (wn bx p rtl ns kid st).1)) (SM (wn bx p rtl ns kid st).2.1) (SA (wn bx p rtl ns kid st).2.2):=by
 have hN:kst ns kid=y.style:=gU hy
 unfold wn
 rw [hN]
 obtain⟨s,row,w,h,iw,ih,al,ac,kids⟩:=p
 obtain⟨Ky,hG⟩:=nmE (vw ak y.kids)
 obtain⟨Ry,hH⟩:=nmE (vw aO.c y.table.rules)
 have b2:=bq h1
 have pM:=bU st.1
 have kM:=GW st.1
 have dM:=yJ st.1
 have pA:=bV st.2
 have kA:=GX st.2
 have dA:=yK st.2
 have cX:=kC ns hl kid y h1 hy rtl keeps (.view (SM st.1)) (.view (SA st.2)) n s row al ac (knS iw) K
 change PC0 _ _ (.t (agP (kcX ⟨s,row,w,h,iw,ih,al,ac,kids⟩ y.style rtl)))at cX
 have cS:=fK ns hl kid y h1 hy rtl true keeps (.view (SM st.1)) (.view (SA st.2)) n s row al ac (knS iw) K
 change PC0 _ _ (.t (.agg (lc (ar.c (xS ⟨s,row,w,h,iw,ih,al,ac,kids⟩ y.style rtl true)))))at cS
 obtain⟨V,hV⟩:=nmE (vwA af.ac ns)
 have cy:=bm ns kid y b2.1 (by have:=b2.2.1;omega) hy V Ky Ry hV hG hH
 rw [<-hV]at hbx cX cS⊢
 obtain⟨⟨k0,k1⟩,hw⟩:∃q,q=kcX ⟨s,row,w,h,iw,ih,al,ac,kids⟩ y.style rtl:=⟨_,rfl⟩
 obtain⟨BN,hc⟩:=nmE (CT ⟨s,row,w,h,iw,ih,al,ac,kids⟩ y.style rtl)
 rw [<-hw,<-hc]
 unfold CT at hc
 rw [<-hw]at cX hc
 obtain⟨⟨g0,g1⟩,ha⟩:∃q,q=EN ⟨s,row,w,h,iw,ih,al,ac,kids⟩ y.style rtl:=⟨_,rfl⟩
 rw [<-ha]
 unfold EN at ha
 obtain⟨SD,hJ⟩:=nmE (xS ⟨s,row,w,h,iw,ih,al,ac,kids⟩ y.style rtl true)
 rw [<-hJ]at cS ha
 dsimp only at ha hc⊢
 have cZ:=mW V rtl keeps bx c L kid hbx n s row al ac (knS iw) K g0 g1 k0 k1 st hm hq
 obtain⟨rr,hL⟩:=nmE (ta bx row kid ⟨g0,g1⟩ ⟨k0,k1⟩ st)
 rw [<-hL]at cZ⊢
 clear hJ hw hL hbx hG hH hV
 obtain⟨am,an⟩:=al
 have ck:=dh am an
 obtain⟨KN,hx⟩:=nmE (knS ⟨am,an⟩);(try rw [<-hx]at ck);(try rw [<-hx]at hc)
 obtain⟨KW,hk⟩:=nmE (knS iw);(try rw [<-hk]at cX);(try rw [<-hk]at cS);(try rw [<-hk]at cZ);(try rw [<-hk]at⊢)
 have cs:=ea y.style.basis.kind y.style.basis.n KN
 change PC0 _ _ (.i (sF y.style.basis KN))at cs
 have cf:=eG y.style row KN
 have cr:=i7 y.style row k1
 obtain⟨SZ,hA⟩:=nmE (sF y.style.basis KN);(try rw [<-hA]at cs);(try rw [<-hA]at hc)
 obtain⟨FX,hv⟩:=nmE (ph y.style row KN);(try rw [<-hv]at cf);(try rw [<-hv]at hc)
 obtain⟨RT,hz⟩:=nmE (qn y.style row k1);(try rw [<-hz]at cr);(try rw [<-hz]at hc)
 have co:=jC SZ FX
 obtain⟨O,hO⟩:=nmE (orl SZ FX)
 change PC0 _ _ (.i (orl SZ FX))at co
 rw [<-hO]at co
 have hh:BN=if¬O= -1 then O else if k0=3 then RT else-1:=by
  rw [hc,hO]
  unfold orl
  by_cases q1:SZ= -1<;>by_cases q2:FX= -1<;>simp [q1,q2]
 have cB:=iQ SD
 obtain⟨BB,hD⟩:=nmE (wrap64 (SD.before+SD.behind))
 change PC0 _ _ (.i (wrap64 (SD.before+SD.behind)))at cB
 rw [<-hD]at cB ha
 have cI:=dv am an BB
 obtain⟨⟨i0,i1⟩,hI⟩:∃q,q=o7 ⟨am,an⟩ BB:=⟨_,rfl⟩
 change PC0 _ _ (.t (agP (o7 ⟨am,an⟩ BB)))at cI
 rw [<-hI]at cI ha
 have cL:=kO i0 i1
 have hr:=bU rr.2.1
 have hp:=bV rr.2.2
 rw [acE]at cZ
 have he:alB row rr.1=if row then rr.1.wide else rr.1.high:=rfl
 obtain⟨b0,hB⟩:=nmE rr.1.wide
 obtain⟨b1,hC⟩:=nmE rr.1.high
 obtain⟨b3,hK⟩:=nmE rr.1.base
 rw [<-hB,<-hC,<-hK]at cZ
 rw [<-hB,<-hC]at he
 obtain⟨AL,hu⟩:=nmE (alB row rr.1);(try rw [<-hu]at he);(try rw [<-hu]at⊢)
 obtain⟨FR,hE⟩:=nmE (vw aM.c rr.1.frames);(try rw [<-hE]at cZ)
 obtain⟨M,hM⟩:=nmE (SM st.1);(try rw [<-hM]at cZ);(try rw [<-hM]at cX);(try rw [<-hM]at cS);(try rw [<-hM]at pM);(try rw [<-hM]at kM);(try rw [<-hM]at dM);(try rw [<-hM]at⊢)
 obtain⟨A0,hf⟩:=nmE (SA st.2);(try rw [<-hf]at cZ);(try rw [<-hf]at cX);(try rw [<-hf]at cS);(try rw [<-hf]at pA);(try rw [<-hf]at kA);(try rw [<-hf]at dA);(try rw [<-hf]at⊢)
 obtain⟨M2,hn⟩:=nmE (SM rr.2.1);(try rw [<-hn]at cZ);(try rw [<-hn]at hr);(try rw [<-hn]at⊢)
 obtain⟨A2,hj⟩:=nmE (SA rr.2.2);(try rw [<-hj]at cZ);(try rw [<-hj]at hp);(try rw [<-hj]at⊢)
 clear hc hx hk hA hv hz hO hD hI hB hC hK hu hE
 have tm:∀g:Gd,g=G0 prog 3 f256.ntmps->g .q .neq (-1) (-1)=false:=fun g hg=>by rw [bn hg];rfl
 by_cases q1:O= -1
 case neg=>
  have e:BN=O:=by rw [hh,if_pos q1]
  rw [if_pos (by rw [e];exact q1),e]
  dsimp only
  rw [<-hM,<-hf]
  refine dl ([]) ([]) (c:=aJ f256) ay func256 (by kernel_rfl) (by kernel_rfl) (bl (by rfl)) (by kernel_rfl) (fun g hi hd F hb ho hg hF=> ?_)
  have t0:g .q .eql (O) ((-1))=decide ((O)=((-1))):=by rw [bj hg];exact zqn _ _
  have t1:g .q .neq (O) ((-1))=decide (¬(O)=((-1))):=by rw [bn hg];exact dN _ _
  (first|rw [zqu q1]at t0|rw [zqt q1]at t0|rw [zqu (Classical.not_not.2 q1)]at t0|rw [zqt (Classical.not_not.2 q1)]at t0);(first|rw [zqu q1]at t1|rw [zqt q1]at t1|rw [zqu (Classical.not_not.2 q1)]at t1|rw [zqt (Classical.not_not.2 q1)]at t1)
  cbv
  ((repeat'((first|rw [t0]|rw [t1]|refine ad hg cy ?_|refine ad hg ck ?_|refine aa hg cs ?_|refine aa hg cf ?_|refine aa hg co ?_|refine fJ hg cX (dp (o4 (r:=0) (rm:=1) (ra:=2) [.view V,.B rtl,.B keeps] rfl rfl rfl kM dM rfl kA dA) (bB rfl (ah (ao rfl) (av)))) rfl ?_);cbv)))
  exact qP 1 2 hF rfl rfl rfl rfl rfl (by decide) rfl pM pA
 have ht:BN= -1->SE prog 256 (sR V rtl keeps) M A0 [.c (.ptr 0 0 0),.agg (nwL n s row ⟨am,an⟩ ac KW (.view K)),ai kid] (.i AL) M2 A2->SE prog 256 (sR V rtl keeps) M A0 [.c (.ptr 0 0 0),.agg (nwL n s row ⟨am,an⟩ ac KW (.view K)),ai kid] (.t (ai (if BN≠ -1 then(BN,st)else(AL,rr.2)).1)) (SM (if BN≠ -1 then(BN,st)else(AL,rr.2)).2.1) (SA (if BN≠ -1 then(BN,st)else(AL,rr.2)).2.2):=fun h hs=>by
  rw [if_neg (fun x=>x h)]
  dsimp only
  rw [<-hn,<-hj]
  exact hs
 clear hn hj
 have hP:O= -1:=q1
 subst hP
 by_cases q2:k0=3
 case pos=>
  by_cases q3:RT= -1
  case neg=>
   have e:BN=RT:=by rw [hh,if_neg (fun h=>h rfl),if_pos q2]
   rw [if_pos (by rw [e];exact q3),e]
   dsimp only
   rw [<-hM,<-hf]
   refine dl ([]) ([]) (c:=aJ f256) ay func256 (by kernel_rfl) (by kernel_rfl) (bl (by rfl)) (by kernel_rfl) (fun g hi hd F hb ho hg hF=> ?_)
   have tm:=tm g hg
   have tp:g .q .eql (-1) (-1)=true:=by rw [bj hg];rfl
   have t0:g .q .eql (k0) (3)=decide ((k0)=(3)):=by rw [bj hg];exact zqn _ _
   have t1:g .q .neq (RT) ((-1))=decide (¬(RT)=((-1))):=by rw [bn hg];exact dN _ _
   (first|rw [zqu q2]at t0|rw [zqt q2]at t0|rw [zqu (Classical.not_not.2 q2)]at t0|rw [zqt (Classical.not_not.2 q2)]at t0);(first|rw [zqu q3]at t1|rw [zqt q3]at t1|rw [zqu (Classical.not_not.2 q3)]at t1|rw [zqt (Classical.not_not.2 q3)]at t1)
   cbv
   ((repeat'((first|rw [tp]|rw [t0]|rw [t1]|refine ad hg cy ?_|refine ad hg ck ?_|refine aa hg cs ?_|refine aa hg cf ?_|refine aa hg co ?_|refine ad hg cr ?_|refine fJ hg cX (dp (o4 (r:=0) (rm:=1) (ra:=2) [.view V,.B rtl,.B keeps] rfl rfl rfl kM dM rfl kA dA) (bB rfl (ah (ao rfl) (av)))) rfl ?_);cbv)))
   exact qP 1 2 hF rfl rfl rfl rfl rfl (by decide) rfl pM pA
  have e:BN= -1:=by rw [hh,if_neg (fun h=>h rfl),if_pos q2,q3]
  refine ht e ?_
  clear ht
  cases row
  case false=>
   simp only [Bool.false_eq_true,if_false,aI.mk.injEq]at he ha
   obtain⟨rfl,rfl⟩:=ha
   subst he
   refine dl ([]) ([]) (c:=aJ f256) ay func256 (by kernel_rfl) (by kernel_rfl) (bl (by rfl)) (by kernel_rfl) (fun g hi hd F hb ho hg hF=> ?_)
   have tm:=tm g hg
   have tp:g .q .eql (-1) (-1)=true:=by rw [bj hg];rfl
   have t0:g .q .eql (k0) (3)=decide ((k0)=(3)):=by rw [bj hg];exact zqn _ _
   have t1:g .q .neq (RT) ((-1))=decide (¬(RT)=((-1))):=by rw [bn hg];exact dN _ _
   (first|rw [zqu q2]at t0|rw [zqt q2]at t0|rw [zqu (Classical.not_not.2 q2)]at t0|rw [zqt (Classical.not_not.2 q2)]at t0);(first|rw [zqu q3]at t1|rw [zqt q3]at t1|rw [zqu (Classical.not_not.2 q3)]at t1|rw [zqt (Classical.not_not.2 q3)]at t1)
   cbv
   ((repeat'((first|rw [tp]|rw [t0]|rw [t1]|refine ad hg cy ?_|refine ad hg ck ?_|refine aa hg cs ?_|refine aa hg cf ?_|refine aa hg co ?_|refine ad hg cr ?_|refine fJ hg cX (dp (o4 (r:=0) (rm:=1) (ra:=2) [.view V,.B rtl,.B keeps] rfl rfl rfl kM dM rfl kA dA) (bB rfl (ah (ao rfl) (av)))) rfl ?_|refine iP rfl hg 0 1 2 cZ rfl rfl rfl (by decide) rfl pM pA ⟨rfl,.inl ⟨rfl,rfl⟩,rfl,.inl ⟨rfl,rfl⟩,.inl ⟨rfl,rfl⟩,trivial⟩ rfl ?_);cbv)))
   exact qP 7 8 hF rfl rfl rfl rfl rfl (by decide) rfl hr hp
  case true=>
   simp only [if_true]at he ha
   subst he
   rw [<-ha]at cL
   refine dl ([]) ([]) (c:=aJ f256) ay func256 (by kernel_rfl) (by kernel_rfl) (bl (by rfl)) (by kernel_rfl) (fun g hi hd F hb ho hg hF=> ?_)
   have tm:=tm g hg
   have tp:g .q .eql (-1) (-1)=true:=by rw [bj hg];rfl
   have t0:g .q .eql (k0) (3)=decide ((k0)=(3)):=by rw [bj hg];exact zqn _ _
   have t1:g .q .neq (RT) ((-1))=decide (¬(RT)=((-1))):=by rw [bn hg];exact dN _ _
   (first|rw [zqu q2]at t0|rw [zqt q2]at t0|rw [zqu (Classical.not_not.2 q2)]at t0|rw [zqt (Classical.not_not.2 q2)]at t0);(first|rw [zqu q3]at t1|rw [zqt q3]at t1|rw [zqu (Classical.not_not.2 q3)]at t1|rw [zqt (Classical.not_not.2 q3)]at t1)
   cbv
   ((repeat'((first|rw [tp]|rw [t0]|rw [t1]|refine ad hg cy ?_|refine ad hg ck ?_|refine aa hg cs ?_|refine aa hg cf ?_|refine aa hg co ?_|refine ad hg cr ?_|refine aa hg cB ?_|refine aa hg cI ?_|refine aa hg cL ?_|refine fJ hg cX (dp (o4 (r:=0) (rm:=1) (ra:=2) [.view V,.B rtl,.B keeps] rfl rfl rfl kM dM rfl kA dA) (bB rfl (ah (ao rfl) (av)))) rfl ?_|refine dL hg cS (dp (o4 (r:=0) (rm:=1) (ra:=2) [.view V,.B rtl,.B keeps] rfl rfl rfl kM dM rfl kA dA) (bB rfl (ah (ao rfl) (ah (ao rfl) (av))))) rfl ?_|refine iP rfl hg 0 1 2 cZ rfl rfl rfl (by decide) rfl pM pA ⟨rfl,.inl ⟨rfl,rfl⟩,rfl,.inl ⟨rfl,rfl⟩,.inl ⟨rfl,rfl⟩,trivial⟩ rfl ?_);cbv)))
   exact qP 7 8 hF rfl rfl rfl rfl rfl (by decide) rfl hr hp
 have e:BN= -1:=by rw [hh,if_neg (fun h=>h rfl),if_neg q2]
 refine ht e ?_
 clear ht
 cases row
 case false=>
  simp only [Bool.false_eq_true,if_false,aI.mk.injEq]at he ha
  obtain⟨rfl,rfl⟩:=ha
  subst he
  refine dl ([]) ([]) (c:=aJ f256) ay func256 (by kernel_rfl) (by kernel_rfl) (bl (by rfl)) (by kernel_rfl) (fun g hi hd F hb ho hg hF=> ?_)
  have tm:=tm g hg
  have tp:g .q .eql (-1) (-1)=true:=by rw [bj hg];rfl
  have t0:g .q .eql (k0) (3)=decide ((k0)=(3)):=by rw [bj hg];exact zqn _ _
  (first|rw [zqu q2]at t0|rw [zqt q2]at t0|rw [zqu (Classical.not_not.2 q2)]at t0|rw [zqt (Classical.not_not.2 q2)]at t0)
  cbv
  ((repeat'((first|rw [tm]|rw [tp]|rw [t0]|refine ad hg cy ?_|refine ad hg ck ?_|refine aa hg cs ?_|refine aa hg cf ?_|refine aa hg co ?_|refine fJ hg cX (dp (o4 (r:=0) (rm:=1) (ra:=2) [.view V,.B rtl,.B keeps] rfl rfl rfl kM dM rfl kA dA) (bB rfl (ah (ao rfl) (av)))) rfl ?_|refine iP rfl hg 0 1 2 cZ rfl rfl rfl (by decide) rfl pM pA ⟨rfl,.inl ⟨rfl,rfl⟩,rfl,.inl ⟨rfl,rfl⟩,.inl ⟨rfl,rfl⟩,trivial⟩ rfl ?_);cbv)))
  exact qP 7 8 hF rfl rfl rfl rfl rfl (by decide) rfl hr hp
 case true=>
  simp only [if_true]at he ha
  subst he
  rw [<-ha]at cL
  refine dl ([]) ([]) (c:=aJ f256) ay func256 (by kernel_rfl) (by kernel_rfl) (bl (by rfl)) (by kernel_rfl) (fun g hi hd F hb ho hg hF=> ?_)
  have tm:=tm g hg
  have tp:g .q .eql (-1) (-1)=true:=by rw [bj hg];rfl
  have t0:g .q .eql (k0) (3)=decide ((k0)=(3)):=by rw [bj hg];exact zqn _ _
  (first|rw [zqu q2]at t0|rw [zqt q2]at t0|rw [zqu (Classical.not_not.2 q2)]at t0|rw [zqt (Classical.not_not.2 q2)]at t0)
  cbv
  ((repeat'((first|rw [tm]|rw [tp]|rw [t0]|refine ad hg cy ?_|refine ad hg ck ?_|refine aa hg cs ?_|refine aa hg cf ?_|refine aa hg co ?_|refine aa hg cB ?_|refine aa hg cI ?_|refine aa hg cL ?_|refine fJ hg cX (dp (o4 (r:=0) (rm:=1) (ra:=2) [.view V,.B rtl,.B keeps] rfl rfl rfl kM dM rfl kA dA) (bB rfl (ah (ao rfl) (av)))) rfl ?_|refine dL hg cS (dp (o4 (r:=0) (rm:=1) (ra:=2) [.view V,.B rtl,.B keeps] rfl rfl rfl kM dM rfl kA dA) (bB rfl (ah (ao rfl) (ah (ao rfl) (av))))) rfl ?_|refine iP rfl hg 0 1 2 cZ rfl rfl rfl (by decide) rfl pM pA ⟨rfl,.inl ⟨rfl,rfl⟩,rfl,.inl ⟨rfl,rfl⟩,.inl ⟨rfl,rfl⟩,trivial⟩ rfl ?_);cbv)))
  exact qP 7 8 hF rfl rfl rfl rfl rfl (by decide) rfl hr hp
theorem Bn{V:LLA}{bx:Bx}{c L:Nat}{kid:Int}(hb:xx V rtl keeps bx c L kid)(p:Pl)(ns:List af)(st:St):(wn bx p rtl ns kid st).2.1.length<=st.1.length+c/\(wn bx p rtl ns kid st).2.2.length<=st.2.length+c:=by
 unfold wn
 split
 ·exact⟨Nat.le_add_right ..,Nat.le_add_right ..⟩
 ·exact xt hb ..
theorem tJ{a b c k L:Nat}(h:a<=b+k*c)(hL:b+20*c<=L)(hk:k+1<=20):a+c<=L:=by
 have:=Nat.mul_le_mul_right c hk
 rw [Nat.succ_mul]at this
 omega
theorem nm{a a' b c k:Nat}(h:a<=b+k*c)(h2:a'<=a+c):a'<=b+(k+1)*c:=by
 rw [Nat.succ_mul];omega
theorem p8(ns:List af)(hl:ns.length<=1048576)(rtl keeps:Bool)(bx:Bx)(c L:Nat)(n:Int)(p:Pl)(hkl:p.kids.length<20)(hk:∀ha∈p.kids,isN ns ha=true)(hbx:∀ha∈p.kids,xx (vwA af.ac ns) rtl keeps bx c L ha)(st:St)(hm:st.1.length+20*c<=L)(hq:st.2.length+20*c<=L):
  SE prog 208 (sR (vwA af.ac ns) rtl keeps) (SM st.1) (SA st.2) [.c (.ptr 0 0 0),.agg (nwL n p.s p.row p.al p.ac (knS p.wide) (.view (vw ak p.kids)))] (.t (.c (.view (vw ag.c (lN bx p rtl ns p.kids st).1)))) (SM (lN bx p rtl ns p.kids st).2.1) (SA (lN bx p rtl ns p.kids st).2.2):=by
 refine vr (t:=237) (k:=9) (V:=vw ag.c (lN bx p rtl ns p.kids st).1) (R:= .o 5) ?_ (BH (c:=ag.c) (k:=9) fun _=>rfl) pJ rfl rfl rfl
 have hY:∀ha∈p.kids,∃y,ns[(ha-1).toNat]? =some y:=fun ha h=>(bq (hk ha h)).2.2
 have hT:=fun ha(h:ha∈p.kids) y hy Ky Ry=>bm ns ha y (bq (hk ha h)).1 (by have:=(bq (hk ha h)).2.1;omega) hy (vwA af.ac ns) Ky Ry rfl
 have hh:=fun ha(h:ha∈p.kids) y hy K st h1 h2=>rx ns hl ha y (hk ha h) hy rtl keeps bx c L (hbx ha h) n p K st h1 h2
 have hS:=fun ha(h:ha∈p.kids) y hy C D K=>fK ns hl ha y (hk ha h) hy rtl true keeps C D n p.s p.row p.al p.ac (knS p.wide) K
 have hj:=fun ha(h:ha∈p.kids) st=>Bn (hbx ha h) p ns st
 clear hbx
 obtain⟨f,hf⟩:∃f,f=fun k st=>wn bx p rtl ns k st:=⟨_,rfl⟩
 have hZ:∀k st,wn bx p rtl ns k st=f k st:=fun k st=>by rw [hf]
 simp only [hZ]at hh hj
 obtain⟨it,hA⟩:∃it,it=fun ks st=>lN bx p rtl ns ks st:=⟨_,rfl⟩
 have hr:∀ks st,lN bx p rtl ns ks st=it ks st:=fun ks st=>by rw [hA]
 have h5:∀st,it [] st=([],st):=fun st=>by rw [hA];rfl
 have ho:∀k r st,it (k::r) st=(FM p (kst ns k) rtl (f k st).1::(it r (f k st).2).1,(it r (f k st).2).2):=fun k r st=>by rw [hA,hf];rfl
 simp only [hr]
 clear hf hA hZ hr
 obtain⟨s0,row,w,h,iw,ih,al,ac,kids⟩:=p
 dsimp only at *
 obtain⟨V,hV⟩:=nmE (vwA af.ac ns)
 rw [<-hV]at hT
 simp only [<-hV]at hh hS
 rw [<-hV]
 obtain⟨K,hK⟩:=nmE (vw ak kids)
 have xh:=lmV hK
 have iK:=imV hK
 have kK:=kmV (k:=1) hK fun _=>rfl
 have dK:=dmV hK
 have hh:=fun ha h y hy st=>hh ha h y hy K st
 have hS:=fun ha h y hy C D=>hS ha h y hy C D K
 rw [<-hK]
 obtain⟨am,an⟩:=al
 have ck:=dh am an
 obtain⟨KN,hI⟩:=nmE (knS ⟨am,an⟩)
 change PC0 _ _ (.i (knS ⟨am,an⟩))at ck
 rw [<-hI]at ck
 have ho:∀k r st y,ns[(k-1).toNat]? =some y->it (k::r) st=((⟨(f k st).1,Ar y.style row KN,BA y.style row KN,y.style.grow,y.style.shrink,(sdB s0 y.style rtl true (knS iw)).before,(sdB s0 y.style rtl true (knS iw)).behind,(sdB s0 y.style rtl true (knS iw)).autoBefore,(sdB s0 y.style rtl true (knS iw)).autoBehind⟩:ag)::(it r (f k st).2).1,(it r (f k st).2).2):=fun k r st y hy=>by
  rw [ho,gU hy,hI];rfl
 obtain⟨R,hR⟩:=nmE (it kids st)
 rw [<-hR]
 obtain⟨KW,hw⟩:=nmE (knS iw);(try rw [<-hw]at hh);(try rw [<-hw]at hS);(try rw [<-hw]at ho);(try rw [<-hw]at⊢)
 obtain⟨M0,hJ⟩:=nmE (SM st.1)
 obtain⟨A0,hG⟩:=nmE (SA st.2)
 have xe:aC M0=true:=by rw [hJ];exact bU _
 have xc:aC A0=true:=by rw [hG];exact bV _
 rw [<-hJ,<-hG]
 have hQ:kids.length<=1048576:=by omega
 have xi:R.1.length=kids.length:=by
  rw [hR]
  have:∀ks:List Int,(∀k∈ks,k∈kids)->∀st,(it ks st).1.length=ks.length:=by
   intro ks
   induction ks with
   |nil=>intro _ st;rw [h5];rfl
   |cons k ks ih=>
    intro hs st
    obtain⟨y,hy⟩:=hY k (hs k (List.mem_cons_self ..))
    rw [ho k ks st y hy]
    simp [ih (fun x hx=>hs x (List.mem_cons_of_mem _ hx))]
  exact this kids (fun _ h=>h) st
 clear hI hV
 refine dl ([(8,.hand)]) ([]) (c:=aJ f208) ay func208 (by kernel_rfl) (by kernel_rfl) (bl (by rfl)) (by kernel_rfl) (fun g xg hd F hN h4 hg hF=> ?_)
 cbv
 (repeat'(refine ad hg ck ?_;cbv))
 refine lI ([(8,.hand)]) ([]) hN h4 hg ay (by kernel_rfl) K (fun x=>lc (ak x)) kids hK hQ (fun z(s:(List ag×St)×LLA×LLA×LLA)=>[(0,.p 0),(3,.p 3),(5,.o 6),(6,.i (KN)),(7,.i (z))]) (fun z(s:(List ag×St)×LLA×LLA×LLA)=>[.bx 91 5 [.view V,.B rtl,.B keeps,.own 4,.own 5],.gn,.gn,.bx 180 68 (nwL n s0 row ⟨am,an⟩ ac KW (.view K)),.rw ⟨157,10,s.2.1⟩,.rw ⟨172,6,s.2.2.1⟩,.rw ⟨237,9,s.2.2.2⟩]) (fun z(s:(List ag×St)×LLA×LLA×LLA)=>s.2.1=SM s.1.2.1/\s.2.2.1=SA s.1.2.2/\s.2.2.2=vw ag.c s.1.1/\s.1.2.1.length<=st.1.length+s.1.1.length*c/\s.1.2.2.length<=st.2.length+s.1.1.length*c) (fun(s:(List ag×St)×LLA×LLA×LLA) rest=>(s.1.1++(it rest s.1.2).1,(it rest s.1.2).2)) (R) (([],st),M0,A0,[]) (by rw [hR];rfl) ⟨hJ,hG,rfl,by simp,by simp⟩ (Wk.weak (wkM [some 0,none,none,some 3,some 1,some 2,some 4] zr5 ⟨.inr ⟨_,_,rfl,rfl,rfl,rfl,.inr ⟨zr5,trivial⟩⟩,.inl rfl,.inl rfl,.inr (wqE rfl rfl),.inr (wqE rfl xe),.inr (wqE rfl xc),.inr (wqE rfl rfl),trivial⟩ (by decide) ⟨.inl rfl,.inl rfl,.inr rfl,trivial⟩ ⟨.inl rfl,.inl rfl,.inr ⟨_,rfl⟩,trivial⟩)) (fun z s B hz h0 hi he=> ?_) (fun z s x rest B z0 z1 z2 hx hy h0 hi hc e1 hB=> ?_)
 ·obtain⟨⟨hb,hp⟩,M1,A1,E⟩:=s
  obtain⟨i1,i2,i3,i4,i5⟩:=hi
  dsimp only at i1 i2 i3 h0
  obtain rfl:R=(hb,hp):=by rw [<-h0,h5];simp
  have xf:aC M1=true:=by rw [i1];exact bU _
  have xd:aC A1=true:=by rw [i2];exact bV _
  have pE:=pmV i3
  cbv;rw [he];cbv
  subst i1 i2 i3
  exact AW 4 5 6 hF rfl rfl rfl rfl rfl rfl (by decide) rfl xf xd pE
 ·obtain⟨⟨hb,hp⟩,M1,A1,E⟩:=s
  obtain⟨i1,i2,i3,i4,i5⟩:=hi
  dsimp only at i1 i2 i3 i4 i5 h0
  have ht:x∈kids:=zqd hx
  obtain⟨y,hC⟩:=hY x ht
  rw [ho x rest hp y hC]at h0
  have hu:hb.length+1<=20:=by
   have:=congrArg (fun r=>r.1.length) h0
   simp only [zqe,zqx]at this
   omega
  have xb:E.length<=1048576:=by rw [i3,aq];omega
  have pM:aC M1=true:=by rw [i1];exact bU _
  have pA:aC A1=true:=by rw [i2];exact bV _
  have kM:∀y∈M1,y.length=10:=by rw [i1];exact GW _
  have dM:∀y∈M1,y.all dat=true:=by rw [i1];exact yJ _
  have kA:∀y∈A1,y.length=6:=by rw [i2];exact GX _
  have dA:∀y∈A1,y.all dat=true:=by rw [i2];exact yK _
  have cB:=hh x ht y hC hp (tJ i4 hm hu) (tJ i5 hq hu)
  rw [<-i1,<-i2]at cB
  have cS:=hS x ht y hC (.view M1) (.view A1)
  have cy:=hT x ht y hC _ _ rfl rfl
  obtain⟨Ky,hW⟩:=nmE (vw ak y.kids)
  obtain⟨Ry,hX⟩:=nmE (vw aO.c y.table.rules)
  rw [<-hW,<-hX]at cy
  have hn:=hj x ht hp
  obtain⟨⟨b,hv⟩,h6⟩:∃r,r=f x hp:=⟨_,rfl⟩
  rw [<-h6]at cB hn h0
  dsimp only at cB hn h0
  have j1:=nm i4 hn.1
  have j2:=nm i5 hn.2
  have hD:=iY y.style row KN
  have hE:=jD y.style row KN
  obtain⟨f1,hO⟩:=nmE (Ar y.style row KN);(try rw [<-hO]at hD);(try rw [<-hO]at h0)
  obtain⟨f2,hP⟩:=nmE (BA y.style row KN);(try rw [<-hP]at hE);(try rw [<-hP]at h0)
  obtain⟨SD,hM⟩:=nmE (sdB s0 y.style rtl true KW);(try rw [<-hM]at cS);(try rw [<-hM]at h0)
  obtain⟨d0,d1,d2,d3,d4,d5,d6⟩:=SD
  dsimp only at h0
  obtain⟨M2,hL⟩:=nmE (SM hv.1)
  obtain⟨A2,hH⟩:=nmE (SA hv.2)
  have h9:aC M2=true:=by rw [hL];exact bU _
  have h7:aC A2=true:=by rw [hH];exact bV _
  rw [<-hL,<-hH]at cB
  obtain⟨E2,hU⟩:∃E2,E2=E++[[.J b,.J f1,.J f2,.J y.style.grow,.J y.style.shrink,.J d1,.J d2,.B d3,.B d4]]:=⟨_,rfl⟩
  have aE:E2=vw ag.c (hb++[⟨b,f1,f2,y.style.grow,y.style.shrink,d1,d2,d3,d4⟩]):=by rw [hU,i3,bv];rfl
  have h8:=pmV aE
  have pE:=pmV i3
  have h3:((hb++[(⟨b,f1,f2,y.style.grow,y.style.shrink,d1,d2,d3,d4⟩:ag)])++(it rest hv).1,(it rest hv).2)=R:=by rw [<-h0];simp
  have nl:(hb++[(⟨b,f1,f2,y.style.grow,y.style.shrink,d1,d2,d3,d4⟩:ag)]).length=hb.length+1:=by simp
  clear hW hX h6 hO hP hM i4 i5 hn hh hS hT hj ho
  cbv
  rw [hc]
  cbv
  ((repeat'((first|refine aa hg cy ?_|refine goX hg _ z0 hy rfl ?_|refine dL hg cS (dp (o4 (r:=0) (rm:=4) (ra:=5) [.view V,.B rtl,.B keeps] rfl rfl rfl kM dM rfl kA dA) (bB rfl (ah (ao rfl) (ah (ao rfl) (av))))) rfl ?_);cbv)))
  refine dr hg h4 ay [1,2,3,4,5,6,7,9,10,11,12,14,15,16,17,19,20,21,22,23,24,25,26,27,28,29,30] (.op 0 [] (.op 8 [13,18,31] (.op 32 [] (.op 33 [] (.op 34 [] .done .none) .none) .none) .none) (.op 8 [13,18,31] (.op 0 [] (.op 32 [] (.op 33 [] (.op 34 [] .done .none) .none) .none) (.op 32 [] (.op 0 [] (.op 33 [] (.op 34 [] .done .none) .none) .none) .none)) .none)) (by kernel_rfl) (by kernel_rfl) (S:=Unit) (fun _=>True) (fun _=>[(0,.p 0),(3,.p 3),(5,.o 6),(6,.i (KN)),(7,.i (z))]) (fun _=>[.bx 91 5 [.view V,.B rtl,.B keeps,.own 4,.own 5],.gn,.gn,.bx 180 68 (nwL n s0 row ⟨am,an⟩ ac KW (.view K)),.rw ⟨157,10,M2⟩,.rw ⟨172,6,A2⟩,.rw ⟨237,9,E2⟩]) (fun BL xa=> ?_) (fun _ _=> ?_)
  ·cbv
   ((repeat'(first|exact trivial|exact rfl|refine And.intro ?_ ?_|((first|refine aa hg hD ?_|refine aa hg hE ?_|refine goX hg _ z0 hy rfl ?_|refine iP rfl hg 0 4 5 cB rfl rfl rfl (by decide) rfl pM pA ⟨rfl,.inl ⟨rfl,rfl⟩,rfl,trivial⟩ rfl ?_|refine dg hg rfl (by decide) xb ?_);cbv))))
   all_goals
    rw [gd hg,<-hU]
    exact xa () trivial _ _ (Wk.weak (wkM [some 0,none,none,some 3,some 9,some 10,some 12] zr5 ⟨.inr ⟨_,_,rfl,rfl,rfl,rfl,.inr ⟨zr5,trivial⟩⟩,.inl rfl,.inl rfl,.inr (wqE rfl rfl),.inr (wqE rfl h9),.inr (wqE rfl h7),.inr (wqE rfl h8),trivial⟩ (by decide) ⟨.inl rfl,.inl rfl,.inr rfl,trivial⟩ ⟨.inl rfl,.inl rfl,.inr ⟨_,rfl⟩,trivial⟩))
  cbv
  ((repeat'(rw [e1];cbv)))
  skip
  exact hB (((hb++[⟨b,f1,f2,y.style.grow,y.style.shrink,d1,d2,d3,d4⟩],hv),M2,A2,E2)) _ _ ⟨h3,⟨hL,hH,aE,by rw [nl];exact j1,by rw [nl];exact j2⟩⟩ (Wk.weak (wkM [some 0,none,none,some 3,some 4,some 5,some 6] zr5 ⟨.inr ⟨_,_,rfl,rfl,rfl,rfl,.inr ⟨zr5,trivial⟩⟩,.inl rfl,.inl rfl,.inr (wqE rfl rfl),.inr (wqE rfl h9),.inr (wqE rfl h7),.inr (wqE rfl h8),trivial⟩ (by decide) ⟨.inl rfl,.inl rfl,.inr rfl,trivial⟩ ⟨.inl rfl,.inl rfl,.inr ⟨_,rfl⟩,trivial⟩))
end Go.Proofs.YtckchgoblpgpbaaGreat
