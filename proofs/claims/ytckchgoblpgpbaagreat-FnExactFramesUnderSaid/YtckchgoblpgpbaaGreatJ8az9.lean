/- A part. -/
import Derived.Test.YtckchgoblpgpbaaGreatJ8az
set_option linter.all false
set_option maxHeartbeats 80000000
namespace Go.Proofs.YtckchgoblpgpbaaGreat
open Go.ChangeShapes Go.WideShapes Go.ChangeAt Go.RowKit Am Go.Proofs.Tryz
set_option maxRecDepth 100000
section
variable {ns:List ae}{n:Int}
theorem ut(xs:List ag)(hl:xs.length<=1048576)(n:Int):PC0 45 [.c (.view (vw ag.c xs)),ai n] (.tup [.agg [.imm (.int .i64 (frF n xs).1.node),.imm (.int .i64 (frF n xs).1.x),.imm (.int .i64 (frF n xs).1.y),.imm (.int .i64 (frF n xs).1.wide),.imm (.int .i64 (frF n xs).1.high)],.c (.imm (.bool (frF n xs).2))]):=by
 obtain⟨r,hr⟩:=nmE (frF n xs)
 rw [<-hr]
 obtain⟨⟨r0,r1,r2,r3,r4⟩,t⟩:=r
 simp only
 obtain⟨V,hV⟩:=nmE (vw ag.c xs)
 have ha:=lmV hV
 rw [<-hV]
 refine aV func45 fun g F hg hF=> ?_
 cbv
 refine aQ hg bq (by kernel_rfl) V (fun x=>lc (ag.c x)) xs hV hl (fun z(s:Unit)=>[(1,.i (n)),(4,.p 0),(5,.t (abl (false))),(8,.v V),(9,.i (g .ln V)),(10,.i (z))]) (fun z(s:Unit)=>[.bx 45 5 [.J 0,.J 0,.J 0,.J 0,.J 0]]) (fun z(s:Unit)=>True) (fun(s:Unit) rest=>frF n rest) (((⟨r0,r1,r2,r3,r4⟩:ag),t)) () hr.symm trivial (Wk.weak (wkG [some _] zr6 ⟨wqE rfl rfl,zpt⟩ (by decide) aB)) (fun z s B hz h0 hi he=> ?_) (fun z s x rest B z0 z1 z2 hx hy h0 hi hc e1 hB=> ?_)
 ·cbv
  rw [he]
  cbv
  obtain⟨⟨rfl,rfl,rfl,rfl,rfl⟩,rfl⟩:((0:Int)=r0/\(0:Int)=r1/\(0:Int)=r2/\(0:Int)=r3/\(0:Int)=r4)/\false=t:=by simpa [frF]using h0
  exact gf hF rfl ⟨rfl,rfl⟩
 ·obtain⟨a0,a1,a2,a3,a4⟩:=x
  replace h0:(if a0=n then((⟨a0,a1,a2,a3,a4⟩:ag),true)else frF n rest)=((⟨r0,r1,r2,r3,r4⟩:ag),t):=h0
  cbv;rw [hc];cbv;refine goX hg _ z0 hy rfl ?_;cbv
  cases e:g .q .eql a0 n
  case false=>
   rw [bj hg,zqr]at e
   rw [if_neg e]at h0
   cbv
   rw [e1]
   exact hB (()) _ _ ⟨h0,zpt⟩ (Wk.weak (wkG [some _] zr6 ⟨wqE rfl rfl,zpt⟩ (by decide) aB))
  rw [bj hg,beq_iff_eq]at e
  rw [if_pos e]at h0
  cbv
  obtain⟨⟨rfl,rfl,rfl,rfl,rfl⟩,rfl⟩:(a0=r0/\a1=r1/\a2=r2/\a3=r3/\a4=r4)/\true=t:=by simpa using h0
  exact gf hF rfl ⟨rfl,rfl⟩
theorem oB(ns:List ae)(hl:ns.length<=1048576)(n kid:Int)(x y:ae)(h1:isN ns n=true)(h2:isN ns kid=true)(hx:ns[(n-1).toNat]? =some x)(hy:ns[(kid-1).toNat]? =some y)(rtl:Bool)(b:Bv)(hbx:uE (vwA ae.ac ns) rtl b kid)(wide high:Int):PC0 55 [.agg (lx (vwA ae.ac ns) rtl),ai n,ai kid,ai wide,ai high] (.t (.agg (lc (ag.c (apG b ns rtl n kid wide high))))):=by
 have ca:=su ns n kid x y hl h1 h2 hx hy rtl wide high
 unfold apG
 rw [gj hx,gj hy]
 obtain⟨p,hp⟩:=nmE x.style
 obtain⟨s,hs⟩:=nmE y.style
 rw [<-hp,<-hs]at ca⊢
 unfold apF atF
 obtain⟨V,hV⟩:=nmE (vwA ae.ac ns)
 rw [<-hV]at hbx ca⊢
 generalize hW:wg p wide=W at ca
 generalize hH:xS p high=H at ca
 have cs:=uC p s rtl W H
 obtain⟨⟨X0,X1⟩,hX⟩:∃X,X=apX s rtl W H:=⟨_,rfl⟩
 obtain⟨⟨Y0,Y1⟩,hY⟩:∃X,X=apY s rtl W H:=⟨_,rfl⟩
 rw [<-hX,<-hY]at cs⊢
 have cB:=hbx X0 X1 Y0 Y1
 obtain⟨q,hq⟩:=nmE (b kid ⟨X0,X1⟩ ⟨Y0,Y1⟩)
 rw [<-hq]at cB⊢
 rw [show jH.ac q=[.J q.wide,.J q.high,.J q.base,.view (vw ag.c q.frames)]from rfl]at cB
 generalize hFR:vw ag.c q.frames=FR at cB
 have c1:=dF s true W q.wide
 have c2:=dF s false H q.high
 generalize hfw:mG s true W q.wide=fw at c1
 generalize hfh:mG s false H q.high=fh at c2
 have cF:=e9 p
 obtain⟨⟨r0,r1,r2,r3⟩,hr⟩:∃q,q=mz p:=⟨_,rfl⟩
 rw [<-hr]at cF⊢
 have i0:=iJ p s rtl W H 0 (.inl rfl)
 have i2:=iJ p s rtl W H 2 (.inr rfl)
 have i1:=iI p s rtl W H 1 (.inl rfl)
 have i3:=iI p s rtl W H 3 (.inr rfl)
 have m0:=bL p s rtl W H 0
 have m1:=bL p s rtl W H 1
 have m2:=bL p s rtl W H 2
 have m3:=bL p s rtl W H 3
 generalize hB0:yG s 0 rtl W=B0 at i0
 generalize hB1:yG s 1 rtl H=B1 at i1
 generalize hB2:yG s 2 rtl W=B2 at i2
 generalize hB3:yG s 3 rtl H=B3 at i3
 generalize hI0:yF s 0 rtl W=I0 at i0
 generalize hI1:yF s 1 rtl H=I1 at i1
 generalize hI2:yF s 2 rtl W=I2 at i2
 generalize hI3:yF s 3 rtl H=I3 at i3
 generalize hM0:jv s.margin 0 rtl W=M0 at m0
 generalize hM1:jv s.margin 1 rtl W=M1 at m1
 generalize hM2:jv s.margin 2 rtl W=M2 at m2
 generalize hM3:jv s.margin 3 rtl W=M3 at m3
 clear hB0 hB1 hB2 hB3 hI0 hI1 hI2 hI3 hM0 hM1 hM2 hM3 hr hfw hfh hFR hq hX hY hW hH hp hs hbx hV
 dsimp only at *
 refine rU [(5,.hand)] func55 fun g he hd F hb hc hg hF=> ?_
 cbv
 (repeat'((first|refine ad hg ca ?_|refine ad hg cs ?_|refine ad hg cB ?_|refine aa hg c1 ?_|refine aa hg c2 ?_);cbv))
 refine bP hg hc bq [0,1,2,3,4,5] (.op 6 [] (.op 7 [] (.op 8 [] (.op 9 [] .done .none) .none) .none) (.op 7 [] (.op 6 [] (.op 8 [] (.op 9 [] .done .none) .none) .none) .none)) (by kernel_rfl) (by kernel_rfl) (S:=Unit) (fun _=>True) (fun _=>[(3,.i (wide)),(4,.i (high)),(5,.p 0),(10,.p 1),(11,.p 2),(15,.p 3),(16,.p 4),(17,.p 5)]) (fun _=>[.bx 76 3 (lx V rtl),.bx 45 5 [.J 0,.J 0,.J 0,.J 0,.J 0],.bx 134 123 (apC p s rtl W H),.bx 45 5 [.J kid,.J 0,.J 0,.J fw,.J fh],.bx 34 4 [.J p.border.left,.J p.border.top,.J p.border.right,.J p.border.bottom],.bx 34 4 [.J r0,.J r1,.J r2,.J r3]]) (fun BL ha=> ?_) (fun _ _=> ?_)
 ·cbv
  ((repeat'(first|exact trivial|exact rfl|refine And.intro ?_ ?_|(refine aa hg cF ?_;cbv))))
  all_goals first
   |exact ha () trivial _ _ (Wk.weak (wkG [some 0,some 1,some 2,some 6,some 7,some 8] zr8 ⟨wqE rfl rfl,wqE rfl rfl,wqE rfl rfl,wqE rfl rfl,wqE rfl rfl,wqE rfl rfl,zpt⟩ (by decide) aB))
   |exact ha () trivial _ _ (Wk.weak (wkG [some 0,some 1,some 2,some 6,some 8,some 7] zr8 ⟨wqE rfl rfl,wqE rfl rfl,wqE rfl rfl,wqE rfl rfl,wqE rfl rfl,wqE rfl rfl,zpt⟩ (by decide) aB))
 cbv
 (repeat'(first|((first|refine ad hg i0 ?_|refine ad hg i1 ?_|refine ad hg i2 ?_|refine ad hg i3 ?_|refine aa hg m0 ?_|refine aa hg m1 ?_|refine aa hg m2 ?_|refine aa hg m3 ?_);cbv)|(cases B0<;>cbv)|(cases B1<;>cbv)|(cases B2<;>cbv)|(cases B3<;>cbv)|(cases rtl<;>cbv)))
 all_goals exact gf hF rfl ⟨by simp only [aG hg,cu hg];rfl,rfl⟩
theorem iT(ns:List ae)(hl:ns.length<=1048576)(n:Int)(nd:ae)(h1:isN ns n=true)(hnx:ns[(n-1).toNat]? =some nd)(hkl:nd.kids.length<=12)(hkd:∀k∈nd.kids,isN ns k=true)(rtl:Bool)(b:Bv)(hbn:uE (vwA ae.ac ns) rtl b n)(hbk:∀k∈nd.kids,uE (vwA ae.ac ns) rtl b k)(R:Int->List Int)(c:Nat)(hc12:12*(c+1)<=1048576)(hR:∀k∈nd.kids,bS prog 71 [.agg [.view (vwA ae.ac ns)],ai k] fun res hb=>res= .o 0/\hb=[⟨45,5,vw ag.c (wS (R k))⟩])(hRl:∀k,(R k).length<=c+1)
  (U:Int->Int->Int->List ag) (hU:∀k∈nd.kids,∀w h,bS prog 59 [.agg (lx (vwA ae.ac ns) rtl),ai k,ai w,ai h] fun res hb=>res= .o 0/\hb=[⟨45,5,vw ag.c (U k w h)⟩]) (hUl:∀k w h,(U k w h).length<=c) (w h:Int) (hbl:(b n ⟨3,w⟩ ⟨3,h⟩).frames.length<=1048576):bS prog 59 [.agg (lx (vwA ae.ac ns) rtl),ai n,ai w,ai h] fun res hb=>res= .o 0/\hb=[⟨45,5,vw ag.c (nd.kids.flatMap (Gb b ns rtl n w h (b n ⟨3,w⟩ ⟨3,h⟩).frames R U))⟩]:=by
 have cG:=fun k(h:k∈nd.kids)=>fZ (hR k h) (xj (c:=ag.c) (k:=5) fun _=>rfl) jc
 have cU:=fun k(hk:k∈nd.kids) w h=>fZ (hU k hk w h) (xj (c:=ag.c) (k:=5) fun _=>rfl) jc
 clear hR hU
 have hs:∀k,(Gb b ns rtl n w h (b n ⟨3,w⟩ ⟨3,h⟩).frames R U k).length<=c+1:=fun k=>by
  unfold Gb
  split
  ·unfold wS;rw [zql];exact hRl k
  ·rw [zqx];have:=hUl k (Em b ns rtl n w h (b n ⟨3,w⟩ ⟨3,h⟩).frames k).wide (Em b ns rtl n w h (b n ⟨3,w⟩ ⟨3,h⟩).frames k).high;omega
 have hT:∀hf∈nd.kids,∃y,ns[(hf-1).toNat]? =some y:=fun hf h=>(bd (hkd hf h)).2.2
 have hI:=fun hf(h:hf∈nd.kids) y hy Ky Ry=>bO ns hf y (bd (hkd hf h)).1 (by have:=(bd (hkd hf h)).2.1;omega) hy (vwA ae.ac ns) Ky Ry rfl
 have cA:=fun k(hk:k∈nd.kids) y hy=>oB ns hl n k nd y h1 (hkd k hk) hnx hy rtl b (hbk k hk) w h
 have cB:=hbn 3 w 3 h
 have cF:=fun k=>ut (b n ⟨3,w⟩ ⟨3,h⟩).frames hbl k
 have hM:=dD w
 have hN:=dD h
 obtain⟨uf,hG⟩:=nmE (Gb b ns rtl n w h (b n ⟨3,w⟩ ⟨3,h⟩).frames R U)
 have hr:∀k y,ns[(k-1).toNat]? =some y->uf k=if y.style.hidden then wS (R k)else if y.style.apart then apG b ns rtl n k w h::U k (apG b ns rtl n k w h).wide (apG b ns rtl n k w h).high else(frF k (b n ⟨3,w⟩ ⟨3,h⟩).frames).1::U k (frF k (b n ⟨3,w⟩ ⟨3,h⟩).frames).1.wide (frF k (b n ⟨3,w⟩ ⟨3,h⟩).frames).1.high:=fun k y hy=>by
  rw [hG]
  unfold Gb Em
  rw [gj hy]
  cases q:y.style.apart<;>simp only [Bool.false_eq_true,if_false,if_true]
 rw [<-hG]at hs⊢
 obtain⟨fA,h5⟩:∃f:Int->ag,f=fun hf=>apG b ns rtl n hf w h:=⟨_,rfl⟩
 have h6:∀k,apG b ns rtl n k w h=fA k:=fun k=>by rw [h5]
 simp only [h6]at cA hr
 clear h6 h5 hG
 obtain⟨W,hW⟩:=nmE (nd.kids.flatMap uf)
 have xi:W.length<=1048576:=by
  rw [hW]
  have h2:=yl uf (c+1) nd.kids fun k _=>hs k
  have h3:=zpf (c+1) hkl
  omega
 rw [<-hW]
 obtain⟨q,hq⟩:=nmE (b n ⟨3,w⟩ ⟨3,h⟩)
 rw [<-hq]at cB
 simp only [<-hq]at cF hr
 rw [show jH.ac q=[.J q.wide,.J q.high,.J q.base,.view (vw ag.c q.frames)]from rfl]at cB
 obtain⟨bw,h4⟩:=nmE q.wide
 obtain⟨bh,hY⟩:=nmE q.high
 obtain⟨bb,hX⟩:=nmE q.base
 rw [<-h4,<-hY,<-hX]at cB
 obtain⟨FR,hC⟩:=nmE (vw ag.c q.frames)
 rw [<-hC]at cB
 simp only [<-hC]at cF
 have b2:=bd h1
 obtain⟨V,hV⟩:=nmE (vwA ae.ac ns)
 obtain⟨Rt,hP⟩:=nmE (vw aC.c nd.table.rules)
 obtain⟨K,hK⟩:=nmE (vw ak nd.kids)
 have xh:K.length=nd.kids.length:=by rw [hK,ar]
 have cy:=bO ns n nd b2.1 (by have:=b2.2.1;omega) hnx V K Rt hV hK hP
 rw [<-hV]at cB⊢
 simp only [<-hV]at cG cU hI cA
 obtain⟨Z,hZ⟩:=nmE (vw ag.c W)
 rw [<-hZ]
 have hE:nd.kids.length<=1048576:=by omega
 clear hbn hbk h4 hY hX hC hq hkd hP hV hUl hRl
 refine rU [(12,.hand)] func59 fun g xg hd F hD h7 hg hF=> ?_
 cbv
 (repeat'((first|refine aa hg hM ?_|refine aa hg hN ?_|refine aa hg cB ?_|refine ad hg cy ?_);cbv))
 refine iA ([(12,.hand)]) ([]) hD h7 hg bq (by kernel_rfl) K (fun x=>lc (ak x)) nd.kids hK hE (fun z(s:List ag×LLA)=>[(1,.i (n)),(2,.i (w)),(3,.i (h)),(4,.p 0),(9,.p 1),(10,.o 2),(27,.v K),(28,.i (g .ln K)),(29,.i (z))]) (fun z(s:List ag×LLA)=>[.bx 76 3 (lx V rtl),.bx 127 4 [.J bw,.J bh,.J bb,.view FR],.rw ⟨45,5,s.2⟩]) (fun z(s:List ag×LLA)=>s.2=vw ag.c s.1) (fun(s:List ag×LLA) rest=>s.1++rest.flatMap uf) (W) ([],[]) (by rw [hW];rfl) rfl (Wk.weak (wkG [some _,some _,none] zr9 ⟨wqE rfl rfl,wqE rfl rfl,⟨_,rfl,rfl⟩,zpt⟩ (by decide) aB)) (fun z s B hz h0 hi he=> ?_) (fun z s x rest B z0 z1 z2 hx hy h0 hi hc e1 hB=> ?_)
 ·obtain⟨hj,E⟩:=s
  dsimp only at hi h0
  have pE:=pmV hi
  obtain rfl:hj=W:=by simpa using h0
  rw [hZ,<-hi]at hF
  cbv;rw [he];cbv
  exact bN hF rfl pE
 obtain⟨hj,E⟩:=s
 dsimp only at hi h0
 have hp:x∈nd.kids:=zqd hx
 obtain⟨y,hJ⟩:=hT x hp
 have ha:=hr x y hJ
 have h8:=hs x
 have cG:=cG x hp
 have cU:=cU x hp
 have cA:=cA x hp y hJ
 have cF:=cF x
 have cy:=hI x hp y hJ _ _ rfl rfl
 obtain⟨Ky,hO⟩:=nmE (vw ak y.kids)
 obtain⟨Ry,hS⟩:=nmE (vw aC.c y.table.rules)
 rw [<-hO,<-hS]at cy
 have hn:=congrArg List.length h0
 rw [zqe]at hn
 have xf:E.length<=1048576:=by rw [hi,ar];omega
 have hA:E.length<=1073741824:=by omega
 obtain⟨ux,ho⟩:=nmE (uf x)
 have h3:(hj++ux)++rest.flatMap uf=W:=by rw [<-h0,ho];simp
 rw [<-ho]at ha h8
 obtain⟨E2,hm⟩:=nmE (E++vw ag.c ux)
 have aE:E2=vw ag.c (hj++ux):=by rw [hm,hi,zY]
 have hL:=pmV aE
 clear hn hO hS hT hr hs hI
 cases hH:y.style.hidden
 case true=>
  rw [hH,if_pos rfl]at ha
  subst ha
  generalize hQ:vw ag.c (wS (R x))=Q at cG hm;replace hQ:=hQ.symm
  have kQ:=kmV (k:=5) hQ fun _=>rfl
  have hh:Q.length<=1073741824:=by rw [hQ,ar];omega
  clear cU cA cF
  obtain⟨x0,x1,ys,x3,x4⟩:=y
  dsimp only at *
  cbv;rw [hc];cbv;refine goX hg _ z0 hy rfl ?_;cbv
  (repeat'((first|refine ad hg cy ?_|refine aa hg cy ?_);cbv))
  (split<;>rename_i hq<;>first|exact absurd (hq.symm.trans hH) (by decide)|cbv)
  (repeat'((first|rw [e1]|refine ad hg cG ?_|refine Iy hg kQ (by decide) hA hh ?_;cbv;rw [fI hg,<-hm]);cbv))
  exact hB ((hj++wS (R x),E2)) _ _ ⟨h3,aE⟩ (Wk.weak (wkG [some 0,some 1,some 4] zr9 ⟨wqE rfl rfl,wqE rfl rfl,wqE rfl hL,zpt⟩ (by decide) aB))
 rw [hH,if_neg (by simp)]at ha
 obtain⟨⟨⟨p0,p1,p2,p3,p4⟩,pb⟩,h9⟩:∃r,r=frF x q.frames:=⟨_,rfl⟩
 rw [<-h9]at cF ha
 cases hAp:y.style.apart
 case' true=>
  rw [hAp,if_pos rfl]at ha
  obtain⟨⟨r0,r1,r2,r3,r4⟩,xd⟩:∃r,r=fA x:=⟨_,rfl⟩
  rw [<-xd]at cA ha
  have cU:=cU r3 r4
  dsimp only at ha
  generalize ht:U x r3 r4=uu at cU ha;replace ht:=ht.symm
  clear xd
 case' false=>
  rw [hAp,if_neg (by simp)]at ha
  obtain⟨r0,hr0⟩:=nmE p0
  obtain⟨r1,hr1⟩:=nmE p1
  obtain⟨r2,xa⟩:=nmE p2
  obtain⟨r3,xb⟩:=nmE p3
  obtain⟨r4,xc⟩:=nmE p4
  rw [<-hr0,<-hr1,<-xa,<-xb,<-xc]at cF ha
  have cU:=cU r3 r4
  dsimp only at ha
  generalize ht:U x r3 r4=uu at cU ha
  clear hr0 hr1 xa xb xc
 all_goals
  subst ha
  generalize hQ:vw ag.c uu=Q at cU;replace hQ:=hQ.symm
  have kQ:=kmV (k:=5) hQ fun _=>rfl
  have hh:Q.length<=1073741824:=by rw [hQ,ar];rw [zqx]at h8;omega
  obtain⟨E1,hu⟩:∃E1,E1=E++[[.J r0,.J r1,.J r2,.J r3,.J r4]]:=⟨_,rfl⟩
  have hv:E2=E1++Q:=by rw [hm,hu,hQ];simp [vw];rfl
  have hw:E1.length<=1073741824:=by rw [hu,zqe,zqm];omega
  clear hQ ht cG h9 hm
  obtain⟨x0,x1,ys,x3,x4⟩:=y
  dsimp only at *
  cbv;rw [hc];cbv;refine goX hg _ z0 hy rfl ?_;cbv
  (repeat'(refine ad hg cy ?_;cbv))
  (split<;>rename_i hq<;>first|exact absurd (hq.symm.trans hH) (by decide)|cbv)
  (repeat'(refine ad hg cF ?_;cbv))
  (split<;>rename_i hq<;>first|exact absurd (hq.symm.trans hAp) (by decide)|cbv)
  (repeat'(refine ad hg cA ?_;cbv))
  refine bP hg h7 bq [1,4,5,6,7,8,9] (.op 0 [] (.op 2 [] (.op 3 [10] (.op 11 [] (.op 12 [] .done .none) .none) .none) .none) (.op 2 [] (.op 0 [] (.op 3 [10] (.op 11 [] (.op 12 [] .done .none) .none) .none) .none) .none)) (by kernel_rfl) (by kernel_rfl) (S:=Unit) (fun _=>True) (fun _=>[(1,.i (n)),(2,.i (w)),(3,.i (h)),(4,.p 0),(9,.p 1),(10,.o 2),(27,.v K),(28,.i (g .ln K)),(29,.i (z))]) (fun _=>[.bx 76 3 (lx V rtl),.bx 127 4 [.J bw,.J bh,.J bb,.view FR],.rw ⟨45,5,E2⟩]) (fun BL xe=> ?_) (fun _ _=> ?_)
  ·cbv
   ((repeat'(first|exact trivial|exact rfl|refine And.intro ?_ ?_|((first|refine aa hg cU ?_|refine dg hg rfl (by decide) xf ?_;cbv;rw [fI hg,<-hu]|refine Iy hg kQ (by decide) hw hh ?_;cbv;rw [fI hg,<-hv]);cbv))))
   all_goals exact xe () trivial _ _ (Wk.weak (wkG [some _,some _,some 7] zr9 ⟨wqE rfl rfl,wqE rfl rfl,wqE rfl hL,zpt⟩ (by decide) aB))
  cbv
  ((repeat'(rw [e1];cbv)))
  skip
  exact hB ((hj++_::uu,E2)) _ _ ⟨h3,aE⟩ (Wk.weak (wkG [some _,some _,some 2] zr9 ⟨wqE rfl rfl,wqE rfl rfl,wqE rfl hL,zpt⟩ (by decide) aB))
end
end Go.Proofs.YtckchgoblpgpbaaGreat
