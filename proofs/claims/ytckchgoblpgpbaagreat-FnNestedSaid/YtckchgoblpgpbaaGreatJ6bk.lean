/- The law of boxes within boxes: its walk. -/
import Derived.Test.YtckchgoblpgpbaaGreatJ6bj
set_option linter.unusedVariables false
set_option linter.unusedSimpArgs false
set_option maxHeartbeats 16000000
namespace Go.Proofs.YtckchgoblpgpbaaGreat
open Go.ChangeShapes Go.WideShapes Go.ChangeAt Go.RowKit Am Go.Proofs.Tryz
set_option maxRecDepth 100000
def AD(b:Bv)(ns:List af)(rtl:Bool)(n wide high:Int):List ag:=
 if(kst ns n).hidden then uL (xl ns 3 n)else
 ⟨n,0,0,(rtV b (kst ns n) n wide high).1,(rtV b (kst ns n) n wide high).2⟩::zY b ns rtl 3 n (rtV b (kst ns n) n wide high).1 (rtV b (kst ns n) n wide high).2
def loO(ns:List af)(n w h:Int)(rtl:Bool):List ag:=if Ap ns n=false then []else AD (nO ns rtl 4) ns rtl n w h
theorem AA{ns:List af}(ht:aV ns=true)(b:Bv)(rtl:Bool)(n w h:Int):(AD b ns rtl n w h).length<=1885:=by
 unfold AD
 split
 ·unfold uL;rw [zql];exact lr ht 3 n
 ·rw [zqx];have:=ph ht b rtl 3 n (rtV b (kst ns n) n w h).1 (rtV b (kst ns n) n w h).2;have:=uN3;omega
theorem Av(ns:List af)(n w h:Int)(rtl:Bool):(loO ns n w h rtl).length<=1048576:=by
 unfold loO
 split
 ·exact Nat.zero_le _
 ·rename_i hO
  simp only [Bool.not_eq_false,Ap,zqs]at hO
  have:=AA hO.1 (nO ns rtl 4) rtl n w h
  omega
theorem m5(ns:List af)(hl:ns.length<=1048576)(hs:∀y∈ns,af.small y)(ht:aV ns=true)(n:Int)(x:af)(h1:isN ns n=true)(hx:ns[(n-1).toNat]? =some x)(rtl:Bool)(wide high:Int):cj prog 42 [.agg (gz (vwA af.ac ns) rtl),ai n,ai wide,ai high] fun res hb=>res= .o 0/\hb=[⟨45,5,vw ag.c (AD (nO ns rtl 4) ns rtl n wide high)⟩]:=by
 have hd:=iU ht h1
 have cR:=lM ns hl n x h1 hx rtl (nO ns rtl 4) (fC hl hs ht rtl 4 n h1 (by omega)) wide high
 have cU:=fun w h=>jI ns hl hs ht rtl 3 (by decide) n h1 (by omega) w h
 have cG:=nf ns hl ht 3 (by decide) n h1 (by omega)
 unfold AD
 rw [gR hx]at cR⊢
 obtain⟨Ky,xj⟩:=nmE (vw ak x.kids)
 obtain⟨Ry,xk⟩:=nmE (vw aK.c x.table.rules)
 have b2:=aI h1
 obtain⟨V,hV⟩:=nmE (vwA af.ac ns)
 have cy:=aR ns n x b2.1 (by have:=b2.2.1;omega) hx V Ky Ry hV xj xk
 rw [<-hV]at cR cG⊢
 simp only [<-hV]at cU
 obtain⟨⟨X1,X2⟩,hX⟩:∃q,q=rtV (nO ns rtl 4) x.style n wide high:=⟨_,rfl⟩
 rw [<-hX]at cR⊢
 dsimp only at cR⊢
 have cU:=cU X1 X2
 cases hH:x.style.hidden
 case true=>
  simp only [if_true]
  obtain⟨G,hG⟩:=nmE (vw ag.c (uL (xl ns 3 n)))
  have iG:=imV hG
  rw [<-hG]at cG⊢
  clear cU cR hG hX
  obtain⟨c0,c1,⟨c2,c3,c4,c5,c6,c7,c8,c9,hc,he,hf,⟨hh,hi⟩,⟨hj,hk⟩,⟨hm,hn⟩,⟨ho,hp⟩,⟨hq,hr⟩,⟨hu,hv⟩,⟨hw,hy⟩,hz,⟨⟨hA,hB⟩,⟨hC,hD⟩,⟨hE,hI⟩,⟨hJ,hK⟩,⟨hL,hM⟩,⟨hN,hO⟩⟩,⟨⟨hP,hR⟩,⟨hS,hT⟩,⟨hW,hY⟩,⟨h0,h2⟩,⟨h3,h4⟩,⟨h5,h6⟩⟩,⟨h7,h8,h9,xa⟩,⟨xb,xc,xd,xe⟩,xf,xg⟩,xh,⟨xi⟩⟩:=x
  obtain rfl:c9=true:=hH
  refine ae (aM f42) aB func42 fun g F hg hF=> ?_
  cbv
  (repeat'((first|refine ad hg cy ?_|refine bQ hg cG (bK rfl) iG ?_);cbv))
  exact db hF rfl (eI iG)
 simp only [Bool.false_eq_true,if_false]
 obtain⟨U,hU⟩:=nmE (zY (nO ns rtl 4) ns rtl 3 n X1 X2)
 rw [<-hU]at cU⊢
 have xn:U.length<=1048576:=by rw [hU];have:=ph ht (nO ns rtl 4) rtl 3 n X1 X2;have:=uN3;omega
 obtain⟨Q,hQ⟩:=nmE (vw ag.c U)
 have xm:=lmV hQ
 have iQ:=imV hQ
 have kQ:=kmV (k:=5) hQ fun _=>rfl
 have dQ:=dmV hQ
 rw [<-hQ]at cU
 obtain⟨Z,hZ⟩:=nmE (vw ag.c ((⟨n,0,0,X1,X2⟩:ag)::U))
 have pZ:=pmV hZ
 have aZ:[[.J n,.J 0,.J 0,.J X1,.J X2]]++Q=Z:=by rw [hZ,hQ];rfl
 rw [<-hZ]
 have ha:Q.length<=1073741824:=by omega
 clear cG hX hU
 obtain⟨c0,c1,⟨c2,c3,c4,c5,c6,c7,c8,c9,hc,he,hf,⟨hh,hi⟩,⟨hj,hk⟩,⟨hm,hn⟩,⟨ho,hp⟩,⟨hq,hr⟩,⟨hu,hv⟩,⟨hw,hy⟩,hz,⟨⟨hA,hB⟩,⟨hC,hD⟩,⟨hE,hI⟩,⟨hJ,hK⟩,⟨hL,hM⟩,⟨hN,hO⟩⟩,⟨⟨hP,hR⟩,⟨hS,hT⟩,⟨hW,hY⟩,⟨h0,h2⟩,⟨h3,h4⟩,⟨h5,h6⟩⟩,⟨h7,h8,h9,xa⟩,⟨xb,xc,xd,xe⟩,xf,xg⟩,xh,⟨xi⟩⟩:=x
 obtain rfl:c9=false:=hH
 refine ae (aM f42) aB func42 fun g F hg hF=> ?_
 cbv
 (repeat'((first|refine ad hg cy ?_|refine ad hg cR ?_|refine ad hg cU ?_|refine Dk hg kQ (by decide) (by exact(by decide:1<=1073741824)) ha ?_);cbv))
 rw [ig hg,aZ]
 exact db hF rfl pZ
theorem oh(ns:List af)(hl:ns.length<=1048576)(hs:∀y∈ns,af.small y)(n wide high:Int)(rtl:Bool):cj prog 13 [.agg [.view (vwA af.ac ns)],ai n,ai wide,ai high,abl rtl] fun res hc=>res= .o 0/\hc=[⟨45,5,vw ag.c (loO ns n wide high rtl)⟩]:=by
 have cT:=kl ns hl hs
 have hb:aC (vwA af.ac ns)=(ns.length:Int):=by rw [ar,bi]
 have cI:=fE (vwA af.ac ns) n
 rw [hb]at cI
 change PC0 _ _ (.t (abl (isN ns n)))at cI
 have ha:Ap ns n=false->vw ag.c (loO ns n wide high rtl)=[]:=fun h=>by unfold loO;rw [if_pos h];rfl
 cases hT:aV ns
 case false=>
  rw [ha (by simp [Ap,hT])]
  rw [hT]at cT
  obtain⟨V,hV⟩:=nmE (vwA af.ac ns)
  rw [<-hV]at cT⊢
  clear cI hb ha
  refine ae (aM f13) aB func13 fun g F hg hF=> ?_
  cbv
  repeat'(refine ad hg cT ?_;cbv)
  exact rA _ _ hF ⟨rfl,rfl⟩
 rw [hT]at cT
 cases hI:isN ns n
 case false=>
  rw [ha (by simp [Ap,hI])]
  rw [hI]at cI
  obtain⟨V,hV⟩:=nmE (vwA af.ac ns)
  rw [<-hV]at cT cI⊢
  clear hb ha
  refine ae (aM f13) aB func13 fun g F hg hF=> ?_
  cbv
  repeat'((first|refine ad hg cT ?_|refine ad hg cI ?_);cbv)
  exact rA _ _ hF ⟨rfl,rfl⟩
 rw [hI]at cI
 have hd:Ap ns n=true:=by simp only [Ap,hT,hI,Bool.and_self]
 obtain⟨n1,n2,x,hx⟩:=aI hI
 have cU:=m5 ns hl hs hT n x hI hx rtl wide high
 have e:loO ns n wide high rtl=AD (nO ns rtl 4) ns rtl n wide high:=by unfold loO;rw [if_neg (by rw [hd];simp)]
 rw [e]
 clear e ha
 obtain⟨G,hG⟩:=nmE (vw ag.c (AD (nO ns rtl 4) ns rtl n wide high))
 have iG:=imV hG
 obtain⟨V,hV⟩:=nmE (vwA af.ac ns)
 rw [<-hG]at cU⊢
 rw [<-hV]at cT cI cU⊢
 clear hb hG
 refine ae (aM f13) aB func13 fun g F hg hF=> ?_
 cbv
 repeat'((first|refine ad hg cT ?_|refine ad hg cI ?_);cbv)
 repeat'(refine bQ hg cU (bK rfl) iG ?_;cbv)
 exact db hF rfl (eI iG)
def jF(pad:Int):ah:={zd with grow:=1,pad:=⟨pad,pad,pad,pad⟩}
def oL(s:ah):Nat->List af
 |0=>[]
 |1=>uh [] s
 |i+2=>inN (uh (oL s (i+1)) s) ((i:Int)+1) (ve (oL s (i+1)) s) 0
def ze(pad:Int):List af:=[⟨0,[2],jF pad,false,⟨[]⟩⟩,⟨1,[3],jF pad,false,⟨[]⟩⟩,⟨2,[4],jF pad,false,⟨[]⟩⟩,⟨3,[],jF pad,false,⟨[]⟩⟩]
def Ck(pad:Int):List ag:=(List.range 4).map fun i:Nat=>⟨(i:Int)+1,pad*(i:Int),pad*(i:Int),1000-2*pad*(i:Int),900-2*pad*(i:Int)⟩
theorem xV:∀i∈List.range 30,oL (jF (i:Nat)) 4=ze (i:Nat):=by decide+kernel
theorem An:∀i∈List.range 30,∀r∈[false,true],BR (ze (i:Nat)) (loO (ze (i:Nat)) 1 1000 900 r)=Ck (i:Nat):=by decide+kernel
theorem wy(s:ah):∀i,(oL s i).length<=1048576/\∀y∈oL s i,af.small y
 |0=>⟨by simp [oL],by simp [oL]⟩
 |1=>sH [] (by simp) (by simp) s
 |i+2=>by
  obtain⟨h1,h2⟩:=wy s (i+1)
  obtain⟨h3,h4⟩:=sH _ h1 h2 s
  obtain⟨h5,h6,-⟩:=CE _ h3 h4 ((i:Int)+1) (ve (oL s (i+1)) s) 0
  exact⟨h5,h6⟩
theorem DL{n0 N:Nat}{g:Gd}(hg:g=G0 prog n0 N)(a0 a1 a2 a3 a4 b0 b1 b2 b3 b4:Int){K:Bool->Prop}(hK:K (!(decide ((⟨a0,a1,a2,a3,a4⟩:ag)=⟨b0,b1,b2,b3,b4⟩)))):
  g .E .neq 45 [.J a0,.J a1,.J a2,.J a3,.J a4] [.J b0,.J b1,.J b2,.J b3,.J b4] K:=by
 subst hg
 refine⟨by kernel_rfl,⟨_,Tryz.underlying45⟩,[.int .i64 a0,.int .i64 a1,.int .i64 a2,.int .i64 a3,.int .i64 a4],[.int .i64 b0,.int .i64 b1,.int .i64 b2,.int .i64 b3,.int .i64 b4],_,rfl,rfl,?_,hK⟩
 have h1:eqT prog 8 45 [.int .i64 a0,.int .i64 a1,.int .i64 a2,.int .i64 a3,.int .i64 a4] [.int .i64 b0,.int .i64 b1,.int .i64 b2,.int .i64 b3,.int .i64 b4]=some ((a0==b0)&&((a1==b1)&&((a2==b2)&&((a3==b3)&&((a4==b4)&&true))))):=by
  rfl
 rw [h1]
 congr 1
 rw [Bool.eq_iff_iff]
 simp
theorem Al{q:Int}(h:0<=q):∃k:Nat,(k:Int)=q.tmod 30/\k∈List.range 30:=by
 have m1:=Int.tmod_lt_of_pos q (show(0:Int)<30 by decide)
 have m2:=Int.tmod_nonneg 30 h
 exact⟨(q.tmod 30).toNat,by omega,by rw [List.mem_range];omega⟩
theorem m9(bs:List Int)(hbl:bs.length<=9223372036854775807):PC0 3 [.c (.view (vw qy bs))] (.t (abl true)):=by
 have cg:=uI bs
 by_cases h6:bs.length<=1048576
 case neg=>
  rw [zqu (by omega)]at cg
  obtain⟨V,hV⟩:=nmE (vw qy bs)
  rw [<-hV]at cg⊢
  refine ae (aM Tryz.f3) aB Tryz.func3 fun g F hg hF=> ?_
  cbv
  (first|refine ad hg (cg) ?_|refine aa hg (cg) ?_);cbv
  exact aY hF rfl
 rw [zqt (by omega)]at cg
 have c2:=kL bs h6
 have hm:=ri
 obtain⟨V,hV⟩:=nmE (vw qy bs)
 rw [<-hV]at cg c2⊢
 refine gk ([(13,.hand)]) ([]) (c:=aM Tryz.f3) aB Tryz.func3 (by kernel_rfl) (by kernel_rfl) (by rfl) (by kernel_rfl) fun g h7 hd F hc ho hg hF=> ?_
 cbv
 (first|refine ad hg (cg) ?_|refine aa hg (cg) ?_);cbv
 refine qw hg (eD c2 rfl fun res h5 hq=> ?_)
 obtain⟨⟨ps,hC,hp,rfl⟩,rfl⟩:=hq
 obtain⟨W,hW⟩:=nmE (vw ak ps)
 rw [<-hW]
 have h8:aC W=12:=by rw [hW,ar,ao,hC];rfl
 obtain⟨q0,hN⟩:∃q,ps[(0:Int).toNat]? =some q:=⟨_,zqc (by rw [hC];decide)⟩
 obtain⟨q1,hO⟩:∃q,ps[(1:Int).toNat]? =some q:=⟨_,zqc (by rw [hC];decide)⟩
 have hZ:W[(0:Int).toNat]? =some [.J q0]:=by rw [hW];exact bv hN
 have h3:W[(1:Int).toNat]? =some [.J q1]:=by rw [hW];exact bv hO
 have hR:=(hp q0 (zqd hN)).1
 obtain⟨k,hk,hy⟩:=Al hR
 have hY:k<30:=List.mem_range.1 hy
 have hT:=xV k hy
 obtain⟨pad,hi⟩:∃p:Int,p=(k:Nat):=⟨_,rfl⟩
 have hL:0<=pad/\pad<30:=by omega
 have eo:g .w .rem .i64 q0 30=pad:=by
  rw [uM hg,hi,hk]
 rw [<-hi]at hT
 obtain⟨r,hr⟩:=nmE (decide (q1.tmod 2=0))
 have er:g .q .eql (g .w .rem .i64 q1 2) 0=r:=by
  have m1:=Int.tmod_lt_of_pos q1 (show(0:Int)<2 by decide)
  have m2:=Int.tmod_nonneg 2 (hp q1 (zqd hO)).1
  rw [uM hg,bA hg,hr]
  exact zqn _ _
 have hn:BR (ze pad) (loO (ze pad) 1 1000 900 r)=Ck pad:=by
  rw [hi]
  exact An k hy r (by cases r<;>simp)
 clear hr
 refine⟨[],rfl,?_⟩
 cbv
 (repeat'((first|rw [eo]|refine goX hg _ (by decide) hZ rfl ?_|refine BJ hg (by decide) ?_);cbv))
 refine i9 [(13,.hand)] [] hc ho hg aB (by kernel_rfl) (fun s:Int×AC=>[(3,.v W),(4,.p 0),(5,.i (pad)),(6,.i (s.1))]) (fun s=>[.bx 28 1 [s.2]]) (fun s=>0<=s.1/\s.1<=4/\s.2=if s.1=0 then .N else .view (vwA af.ac (oL (jF pad) s.1.toNat))) (fun s=>4-s.1.toNat)
  (0,.N) ⟨by simp,by simp,rfl⟩ (Wk.weak (wkG [some _] zr4 ⟨wqE rfl rfl,trivial⟩ (by decide) aw)) (fun s B hs hB=> ?_)
 obtain⟨z,C⟩:=s
 obtain⟨h0,h1,h2⟩:=hs
 dsimp only at h0 h1 h2
 have tz:g .q .lss z 4=decide (z<4):=bF hg _ _
 have ez:g .w .add .i64 z 1=z+1:=by rw [aJ hg];exact wr1 (by omega) (by omega)
 by_cases hz:z<4
 ·rw [zqu hz]at tz
  have hb:=wy (jF pad) z.toNat
  have tg:g .q .gtr z 0=decide (0<z):=dD hg _ _
  by_cases hz0:z=0
  ·subst hz0
   rw [zqt (by omega)]at tg
   have cA:=xS (ju [] (by simp) (by simp) (jF pad))
   obtain⟨M2,hh⟩:=nmE (vwA af.ac (uh [] (jF pad)))
   obtain⟨n2,hj⟩:=nmE (ve [] (jF pad))
   rw [<-hh,<-hj]at cA
   obtain rfl:C= .N:=by rw [h2];rfl
   have hv:M2=vwA af.ac (oL (jF pad) ((0:Int)+1).toNat):=hh
   clear hb h2 hj hh
   cbv
   (repeat'((first|rw [tz]|refine ad hg hm ?_);cbv))
   refine ql [] [] hc ho hg aB [(3,.v W),(4,.p 0),(5,.i (pad)),(6,.i (0)),(8,.i (n2))] [.bx 28 1 [.view M2]] (by kernel_rfl) (fun B' ht=> ?_) ?_
   ·cbv
    repeat'(refine ad hg cA ?_;cbv)
    skip
    exact ht _ _ (Wk.weak (wkG [some _] zr5 ⟨wqE rfl rfl,trivial⟩ (by decide) aw))
   cbv
   (repeat'(rw [tg];cbv))
   rw [ez]
   skip
   subst hB
   exact⟨(0+1,.view M2),⟨by simp,by simp,by rw [hv];rfl⟩,by simp only;omega,Wk.weak (wkG [some _] zr4 ⟨wqE rfl rfl,trivial⟩ (by decide) aw)⟩
  ·rw [zqu (by omega)]at tg
   rw [if_neg hz0]at h2
   subst h2
   have cA:=ju _ hb.1 hb.2 (jF pad)
   have hD:=sH _ hb.1 hb.2 (jF pad)
   have cI:=lI _ hD.1 hD.2 z (ve (oL (jF pad) z.toNat) (jF pad)) 0
   have hJ:vwA af.ac (inN (uh (oL (jF pad) z.toNat) (jF pad)) z (ve (oL (jF pad) z.toNat) (jF pad)) 0)=vwA af.ac (oL (jF pad) (z+1).toNat):=by
    obtain⟨n,rfl⟩:∃n:Nat,z=(n:Int)+1:=⟨(z-1).toNat,by omega⟩
    rw [show((n:Int)+1+1).toNat=n+2 by omega,show((n:Int)+1).toNat=n+1 by omega]
    rfl
   rw [hJ]at cI
   obtain⟨M1,hG⟩:=nmE (vwA af.ac (oL (jF pad) z.toNat))
   obtain⟨M3,hH⟩:=nmE (vwA af.ac (oL (jF pad) (z+1).toNat))
   rw [<-hH]at cI
   rw [<-hG]at cA⊢
   obtain⟨M2,hh⟩:=nmE (vwA af.ac (uh (oL (jF pad) z.toNat) (jF pad)))
   obtain⟨n2,hj⟩:=nmE (ve (oL (jF pad) z.toNat) (jF pad))
   obtain⟨k2,hI⟩:=nmE (inI (uh (oL (jF pad) z.toNat) (jF pad)) z (ve (oL (jF pad) z.toNat) (jF pad)) 0)
   rw [<-hh,<-hj]at cA
   rw [<-hh,<-hI,<-hj]at cI
   clear hh hj hI hJ hb hD hG
   cbv
   (repeat'((first|rw [tz]|refine ad hg hm ?_);cbv))
   refine ql [] [] hc ho hg aB [(3,.v W),(4,.p 0),(5,.i (pad)),(6,.i (z)),(8,.i (n2))] [.bx 28 1 [.view M2]] (by kernel_rfl) (fun B' ht=> ?_) ?_
   ·cbv
    repeat'(refine ad hg cA ?_;cbv)
    skip
    exact ht _ _ (Wk.weak (wkG [some _] zr5 ⟨wqE rfl rfl,trivial⟩ (by decide) aw))
   cbv
   (repeat'((first|rw [tg]|refine ad hg cI ?_);cbv))
   rw [ez]
   skip
   subst hB
   exact⟨(z+1,.view M3),⟨by simp only;omega,by simp only;omega,by rw [hH];simp only;rw [if_neg (by omega)]⟩,by simp only;omega,Wk.weak (wkG [some _] zr4 ⟨wqE rfl rfl,trivial⟩ (by decide) aw)⟩
 ·rw [zqt hz]at tz
  obtain rfl:z=4:=by omega
  rw [if_neg (by decide)]at h2
  subst h2
  clear h0 h1 hz ez
  have hb:=wy (jF pad) 4
  rw [show((4:Int)).toNat=4 from rfl,hT]
  rw [hT]at hb
  have cL:=fB (oh _ hb.1 hb.2 1 1000 900 r) (sN (c:=ag.c) (k:=5) fun _=>rfl) ij
  have hl:=fB (np _ hb.1 hb.2 (loO (ze pad) 1 1000 900 r) (Av ..)) (sN (c:=ag.c) (k:=5) fun _=>rfl) ij
  rw [hn]at hl
  have hU:∀z:Int,0<=z->z<4->(Ck pad)[z.toNat]? =some (⟨z+1,pad*z,pad*z,1000-2*pad*z,900-2*pad*z⟩:ag):=fun z z0 z4=>by
   obtain⟨n,rfl⟩:∃n:Nat,z=(n:Int):=⟨z.toNat,by omega⟩
   rw [Int.toNat_natCast]
   unfold Ck
   rw [zqi,List.getElem?_range (by omega)]
   rfl
  obtain⟨E,hE⟩:=nmE (vwA af.ac (ze pad))
  obtain⟨LL,hQ⟩:=nmE (vw ag.c (loO (ze pad) 1 1000 900 r))
  obtain⟨FR,hu⟩:=nmE (vw ag.c (Ck pad))
  have hP:aC FR=4:=by rw [hu,ar,ao];rfl
  rw [<-hE,<-hQ]at cL hl
  rw [<-hu]at hl
  rw [<-hE]
  have tl:g .q .neq (g .ln FR) 4=false:=by rw [d5 hg,bO hg,hP];rfl
  clear hn hT hb hm
  cbv
  (repeat'((first|rw [tz]|rw [er]|rw [tl]|refine aa hg cL ?_|refine ad hg hl ?_|refine goX hg _ (by decide) h3 rfl ?_|refine BJ hg (by decide) ?_);cbv))
  clear tz
  refine i9 [] [] hc ho hg aB (by kernel_rfl) (fun s:Int=>[(4,.p 0),(5,.i (pad)),(10,.v FR),(11,.i (s))]) (fun s=>[.bx 28 1 [.view E]]) (fun s=>0<=s/\s<=4) (fun s=>4-s.toNat)
   0 ⟨by simp,by simp⟩ (Wk.weak (wkG [some _] zr4 ⟨wqE rfl rfl,trivial⟩ (by decide) aw)) (fun z B hs hB=> ?_)
  obtain⟨h0,h1⟩:=hs
  have tz:g .q .lss z 4=decide (z<4):=bF hg _ _
  have ez:g .w .add .i64 z 1=z+1:=by rw [aJ hg];exact wr1 (by omega) (by omega)
  by_cases hz:z<4
  ·rw [zqu hz]at tz
   have hf:=hU z h0 hz
   have hM:0<=pad*z/\pad*z<=120:=by
    have h4:z=0\/z=1\/z=2\/z=3:=by omega
    rcases h4 with rfl|rfl|rfl|rfl<;>omega
   have ha:2*pad*z=2*(pad*z):=Int.mul_assoc ..
   obtain⟨pz,he⟩:=nmE (pad*z)
   rw [ha,<-he]at hf
   rw [<-he]at hM ha
   have e1:g .w .mul .i64 pad z=pz:=by rw [ic hg,<-he];exact az _ (by omega)
   obtain⟨p2,hA⟩:=nmE (2*pad)
   rw [<-hA]at ha
   have e2:g .w .mul .i64 2 pad=p2:=by rw [ic hg,<-hA];exact az _ (by omega)
   obtain⟨p3,hK⟩:=nmE (2*pz)
   rw [<-hK]at ha hf
   have e3:g .w .mul .i64 p2 z=p3:=by rw [ic hg,ha];exact az _ (by omega)
   obtain⟨f3,hw⟩:=nmE (1000-p3)
   obtain⟨f4,hx⟩:=nmE (900-p3)
   rw [<-hw,<-hx]at hf
   have e4:g .w .sub .i64 1000 p3=f3:=by rw [dP hg,<-hw];exact az _ (by omega)
   have e5:g .w .sub .i64 900 p3=f4:=by rw [dP hg,<-hx];exact az _ (by omega)
   obtain⟨f0,hS⟩:=nmE (z+1)
   rw [<-hS]at hf ez
   have hX:FR[z.toNat]? =some [.J f0,.J pz,.J pz,.J f3,.J f4]:=by rw [hu];exact bv hf
   clear hf hw hx hA hK he ha hM
   cbv
   (repeat'((first|rw [tz]|rw [ez]|rw [e1]|rw [e2]|rw [e3]|rw [e4]|rw [e5]|refine goX hg _ (by omega) hX rfl ?_|refine DL hg _ _ _ _ _ _ _ _ _ _ ?_;rw [zqu rfl]);cbv))
   skip
   subst hB
   exact⟨f0,⟨by omega,by omega⟩,by omega,Wk.weak (wkG [some _] zr4 ⟨wqE rfl rfl,trivial⟩ (by decide) aw)⟩
  ·rw [zqt hz]at tz
   cbv
   (repeat'(rw [tz];cbv))
   exact aY hF rfl
end Go.Proofs.YtckchgoblpgpbaaGreat
