/- A part. -/
import Derived.Test.YtckchgoblpgpbaaGreatJ8az7
set_option linter.all false
set_option maxHeartbeats 80000000
namespace Go.Proofs.YtckchgoblpgpbaaGreat
open Go.ChangeShapes Go.WideShapes Go.ChangeAt Go.RowKit Am Go.Proofs.Tryz
set_option maxRecDepth 100000
section
variable {xs:List af}
variable {l:List Int}{k:Int}{LL:List (List Int)}
variable {cs:List Int}{gap inner ct:Int}
variable {I:List af}
variable {ns:List ae}
def st0:St:=([],[])
theorem SM0:SM st0.1=[]:=rfl
theorem SA0:SA st0.2=[]:=rfl
def apS(bx:Bx)(ns:List ae)(rtl:Bool)(n kid w h:Int)(st:St):ag×St:=
 (apF (kst ns n) (kst ns kid) rtl w h kid (bx kid (apX (kst ns kid) rtl (wg (kst ns n) w) (xS (kst ns n) h)) (apY (kst ns kid) rtl (wg (kst ns n) w) (xS (kst ns n) h)) st).1,(bx kid (apX (kst ns kid) rtl (wg (kst ns n) w) (xS (kst ns n) h)) (apY (kst ns kid) rtl (wg (kst ns n) w) (xS (kst ns n) h)) st).2)
def frS(bx:Bx)(ns:List ae)(rtl:Bool)(n w h:Int)(fr:List ag)(kid:Int)(st:St):ag×St:=if(kst ns kid).apart then apS bx ns rtl n kid w h st else((frF kid fr).1,st)
def un1(bx:Bx)(ns:List ae)(rtl:Bool)(n w h:Int)(fr:List ag)(R:Int->List Int)(U:Int->Int->Int->St->List ag×St)(kid:Int)(st:St):List ag×St:=
 if(kst ns kid).hidden then(wS (R kid),st)else
  ((frS bx ns rtl n w h fr kid st).1::(U kid (frS bx ns rtl n w h fr kid st).1.wide (frS bx ns rtl n w h fr kid st).1.high (frS bx ns rtl n w h fr kid st).2).1,(U kid (frS bx ns rtl n w h fr kid st).1.wide (frS bx ns rtl n w h fr kid st).1.high (frS bx ns rtl n w h fr kid st).2).2)
def unL(f:Int->St->List ag×St):List Int->St->List ag×St
 | [],st=>([],st)
 |k::r,st=>((f k st).1++(unL f r (f k st).2).1,(unL f r (f k st).2).2)
def Eh(bx:Bx)(ns:List ae)(rtl:Bool):Nat->Int->Int->Int->St->List ag×St
 |0,n,w,h,st=>([],(bx n ⟨3,w⟩ ⟨3,h⟩ st).2)
 |k+1,n,w,h,st=>unL (un1 bx ns rtl n w h (bx n ⟨3,w⟩ ⟨3,h⟩ st).1.frames (zW ns k) (Eh bx ns rtl k)) (kt ns n) (bx n ⟨3,w⟩ ⟨3,h⟩ st).2
theorem Ik{bx:Bx}{b:Bv}(hf:Ee bx b)(ns:List ae)(rtl:Bool)(n kid w h:Int)(st:St):(apS bx ns rtl n kid w h st).1=apG b ns rtl n kid w h:=by
 unfold apS apG
 dsimp only
 rw [hf]
theorem HS{bx:Bx}{b:Bv}(hf:Ee bx b)(ns:List ae)(rtl:Bool)(n w h:Int)(fr:List ag)(kid:Int)(st:St):(frS bx ns rtl n w h fr kid st).1=Em b ns rtl n w h fr kid:=by
 unfold frS Em
 split
 ·exact Ik hf ..
 ·rfl
theorem z8{f:Int->St->List ag×St}{f':Int->List ag}(hf:∀k st,(f k st).1=f' k):∀(ks:List Int)(st:St),(unL f ks st).1=ks.flatMap f'
 | [],_=>rfl
 |k::r,st=>by
  show(f k st).1++(unL f r (f k st).2).1=_
  rw [hf,z8 hf r,List.flatMap_cons]
theorem vz{bx:Bx}{b:Bv}(hf:Ee bx b)(ns:List ae)(rtl:Bool):∀(f:Nat)(n w h:Int)(st:St),(Eh bx ns rtl f n w h st).1=Eg b ns rtl f n w h
 |0,_,_,_,_=>rfl
 |f+1,n,w,h,st=>by
  refine z8 (fun k ha=> ?_) _ _
  unfold un1 Gb
  split
  ·rfl
  ·dsimp only
   rw [HS hf,vz hf ns rtl f,hf]
theorem pK(s:ah)(a b:Int)(rtl:Bool)(base mb all size e0 e1 f0 f1:Int)(turned:Bool):PC0 79 [.agg (lc (ah.c s)),ai a,ai b,abl rtl,ai base,ai mb,ai all,ai size,.c (.view [[.J e0],[.J e1]]),.c (.view [[.J f0],[.J f1]]),abl turned] (.i (atF s a b rtl base mb all size e0 e1 f0 f1 turned)):=by
 have i0:=gI s a rtl base
 have i1:=gI s b rtl base
 have m0:=dJ s.margin a rtl mb
 have m1:=dJ s.margin b rtl mb
 unfold atF
 generalize hB0:yG s a rtl base=B0 at i0
 generalize hB1:yG s b rtl base=B1 at i1
 generalize hI0:yF s a rtl base=I0 at i0
 generalize hI1:yF s b rtl base=I1 at i1
 generalize hM0:jv s.margin a rtl mb=M0 at m0
 generalize hM1:jv s.margin b rtl mb=M1 at m1
 clear hB0 hB1 hI0 hI1 hM0 hM1
 refine aV func79 fun g F hg hF=> ?_
 cbv
 (repeat'(first|((first|refine ad hg i0 ?_|refine ad hg i1 ?_|refine aa hg m0 ?_|refine aa hg m1 ?_);cbv)|(cases B0<;>cbv)|(cases B1<;>cbv)|(cases turned<;>cbv)|((first|refine goX hg [.J e0] (by decide) rfl rfl ?_|refine goX hg [.J e1] (by decide) rfl rfl ?_|refine goX hg [.J f0] (by decide) rfl rfl ?_|refine goX hg [.J f1] (by decide) rfl rfl ?_);cbv)))
 all_goals exact aO hF (by simp only [aG hg,cu hg];rfl)
theorem rx(ns:List ae)(hl:ns.length<=1048576)(n kid:Int)(x y:ae)(h1:isN ns n=true)(h2:isN ns kid=true)(hx:ns[(n-1).toNat]? =some x)(hy:ns[(kid-1).toNat]? =some y)(rtl keeps:Bool)(bx:Bx)(c L:Nat)(hbx:yD (vwA ae.ac ns) rtl keeps bx c L kid)(st:St)(hm:st.1.length+c<=L)(hq:st.2.length+c<=L)(wide high:Int):
  SE prog 50 (sR (vwA ae.ac ns) rtl keeps) (SM st.1) (SA st.2) [.c (.ptr 0 0 0),ai n,ai kid,ai wide,ai high] (.t (.agg (lc (ag.c (apS bx ns rtl n kid wide high st).1)))) (SM (apS bx ns rtl n kid wide high st).2.1) (SA (apS bx ns rtl n kid wide high st).2.2):=by
 unfold apS
 rw [gj hx,gj hy]
 obtain⟨Kx,hf⟩:=nmE (vw ak x.kids)
 obtain⟨Rx,hi⟩:=nmE (vw aC.c x.table.rules)
 obtain⟨Ky,hh⟩:=nmE (vw ak y.kids)
 obtain⟨Ry,hj⟩:=nmE (vw aC.c y.table.rules)
 have b1:=bd h1
 have b2:=bd h2
 obtain⟨V,hV⟩:=nmE (vwA ae.ac ns)
 have cx:=bg ns n x b1.1 (by have:=b1.2.1;omega) hx V Kx Rx hV hf hi
 have cy:=bg ns kid y b2.1 (by have:=b2.2.1;omega) hy V Ky Ry hV hh hj
 rw [<-hV]at hbx⊢
 have cs:=qk x.style y.style wide high rtl
 have cp:=nW x.style wide high
 generalize hW:wg x.style wide=W at cs cp;replace hW:=hW.symm
 generalize hH:xS x.style high=H at cs cp;replace hH:=hH.symm
 obtain⟨⟨X0,X1⟩,hX⟩:∃X,X=apX y.style rtl W H:=⟨_,rfl⟩
 obtain⟨⟨Y0,Y1⟩,hY⟩:∃X,X=apY y.style rtl W H:=⟨_,rfl⟩
 rw [<-hX,<-hY]at cs⊢
 have cB:=hbx.2 X0 X1 Y0 Y1 st hm hq
 obtain⟨q,hq⟩:=nmE (bx kid ⟨X0,X1⟩ ⟨Y0,Y1⟩ st)
 rw [<-hq]at cB⊢
 rw [acE]at cB
 dsimp only
 unfold apF
 rw [<-hW,<-hH]
 have pM:=bD st.1
 have pA:=bG st.2
 have hc:=bD q.2.1
 have hb:=bG q.2.2
 generalize hM0:SM st.1=M0 at cB pM
 generalize hA0:SA st.2=A0 at cB pA
 generalize hM2:SM q.2.1=M2 at cB hc
 generalize hA2:SA q.2.2=A2 at cB hb
 generalize hFR:vw ag.c q.1.frames=FR at cB
 have c1:=cY y.style true W q.1.wide
 have c2:=cY y.style false H q.1.high
 generalize hfw:mG y.style true W q.1.wide=fw at c1
 generalize hfh:mG y.style false H q.1.high=fh at c2
 have cF:=fE x.style
 obtain⟨⟨r0,r1,r2,r3⟩,hr⟩:∃q,q=mz x.style:=⟨_,rfl⟩
 rw [<-hr]at cF⊢
 have a1:=pK y.style 0 2 rtl W W wide fw x.style.border.left x.style.border.right r0 r2 rtl
 have a2:=pK y.style 1 3 rtl H W high fh x.style.border.top x.style.border.bottom r1 r3 false
 dsimp only
 generalize hP1:atF y.style 0 2 rtl W W wide fw x.style.border.left x.style.border.right r0 r2 rtl=P1 at a1
 generalize hP2:atF y.style 1 3 rtl H W high fh x.style.border.top x.style.border.bottom r1 r3 false=P2 at a2
 clear hP1 hP2 hfw hfh hFR hq hX hY hW hH hf hi hh hj hV hbx hM0 hA0 hM2 hA2 hr
 obtain⟨x0,x1,x2,x3,x4⟩:=x
 obtain⟨y0,y1,y2,y3,y4⟩:=y
 dsimp only at *
 refine mC [(3,.hand),(9,.hand),(10,.hand)] func50 (fun g hn hd F hk he hg hF=> ?_)
 cbv
 (repeat'((first|refine ad hg cx ?_|refine ad hg cy ?_);cbv))
 refine bP hg he bq [0,1,2,3,4,5,6,7,8,9,10,11] (.op 12 [] (.op 13 [] (.op 14 [] (.op 15 [] .done .none) .none) .none) (.op 13 [] (.op 12 [] (.op 14 [] (.op 15 [] .done .none) .none) .none) .none)) (by kernel_rfl) (by kernel_rfl) (S:=Unit) (fun _=>True) (fun _=>[(0,.p 0),(2,.i (kid)),(3,.i (wide)),(4,.i (high)),(10,.p 3),(11,.p 4),(12,.p 5),(13,.p 6),(14,.p 7)]) (fun _=>[.bx 91 5 [.view V,.B rtl,.B keeps,.own 1,.own 2],.rw ⟨157,10,M0⟩,.rw ⟨172,6,A0⟩,.bx 45 5 [.J 0,.J 0,.J 0,.J 0,.J 0],.bx 36 60 (lc (ah.c x2)),.bx 36 60 (lc (ah.c y2)),.bx 122 2 [.J X0,.J X1],.bx 122 2 [.J Y0,.J Y1]]) (fun BL ha=> ?_) (fun _ _=> ?_)
 ·cbv
  ((repeat'(first|exact trivial|exact rfl|refine And.intro ?_ ?_|(refine aa hg cs ?_;cbv))))
  all_goals first
   |exact ha () trivial _ _ (Wk.weak (wkM [some 0,some 1,some 2,some 3,some 4,some 5,some 6,some 7] zr9 ⟨.inr (wqB rfl ⟨zr5,zpt⟩),.inr (wqE rfl pM),.inr (wqE rfl pA),.inr (wqE rfl rfl),.inr (wqE rfl rfl),.inr (wqE rfl rfl),.inr (wqE rfl rfl),.inr (wqE rfl rfl),zpt⟩ (by decide) ⟨.inr rfl,.inr rfl,.inr rfl,zpt⟩ ⟨.inr ⟨_,rfl⟩,.inr ⟨_,rfl⟩,.inr ⟨_,rfl⟩,zpt⟩))
   |exact ha () trivial _ _ (Wk.weak (wkM [some 0,some 1,some 2,some 3,some 4,some 5,some 7,some 6] zr9 ⟨.inr (wqB rfl ⟨zr5,zpt⟩),.inr (wqE rfl pM),.inr (wqE rfl pA),.inr (wqE rfl rfl),.inr (wqE rfl rfl),.inr (wqE rfl rfl),.inr (wqE rfl rfl),.inr (wqE rfl rfl),zpt⟩ (by decide) ⟨.inr rfl,.inr rfl,.inr rfl,zpt⟩ ⟨.inr ⟨_,rfl⟩,.inr ⟨_,rfl⟩,.inr ⟨_,rfl⟩,zpt⟩))
 cbv
 (repeat'((first|refine ad hg cp ?_|refine aa hg c1 ?_|refine aa hg c2 ?_|refine ad hg cF ?_|refine gl rfl hg 0 1 2 cB rfl rfl rfl (by decide) rfl pM pA ⟨rfl,rfl,.inl ⟨rfl,rfl⟩,.inl ⟨rfl,rfl⟩,zpt⟩ rfl ?_);cbv))
 refine bP hg he bq [0,1,2,3,4,5,6,7,8,9,10,11,12,13,15,16,17,18,20,21,22,23] (.op 14 [] (.op 19 [24,25] (.op 26 [] .done .none) .none) (.op 19 [] (.op 14 [24,25] (.op 26 [] .done .none) .none) .none)) (by kernel_rfl) (by kernel_rfl) (S:=Unit) (fun _=>True) (fun _=>[(0,.p 0),(4,.i (high)),(10,.p 3),(12,.p 6),(15,.i (W)),(16,.i (H)),(18,.p 7),(19,.p 8),(20,.p 9)]) (fun _=>[.bx 91 5 [.view V,.B rtl,.B keeps,.own 4,.own 5],.gn,.gn,.bx 45 5 [.J 0,.J 0,.J 0,.J 0,.J 0],.rw ⟨157,10,M2⟩,.rw ⟨172,6,A2⟩,.bx 36 60 (lc (ah.c y2)),.bx 34 4 [.J r0,.J r1,.J r2,.J r3],.bx 34 4 [.J x2.border.left,.J x2.border.top,.J x2.border.right,.J x2.border.bottom],.bx 45 5 [.J kid,.J P1,.J 0,.J fw,.J fh]]) (fun BL ha=> ?_) (fun _ _=> ?_)
 ·cbv
  ((repeat'(first|exact trivial|exact rfl|refine And.intro ?_ ?_|(refine fy hg a1 (bv rfl (aj (av rfl) (aj (av rfl) (aj (av rfl) (aj (av rfl) (aj (av rfl) (aj (av rfl) (aj (av rfl) (aj (aX (ab:=⟨_,_,[[.imm (.int .i64 x2.border.left)],[.imm (.int .i64 x2.border.right)]]⟩) rfl (fun x hx=>by simp only [zph,List.not_mem_nil,or_false]at hx;rcases hx with rfl|rfl<;>rfl) (fun x hx=>by simp only [zph,List.not_mem_nil,or_false]at hx;rcases hx with rfl|rfl<;>rfl)) (aj (aX (ab:=⟨_,_,[[.imm (.int .i64 r0)],[.imm (.int .i64 r2)]]⟩) rfl (fun x hx=>by simp only [zph,List.not_mem_nil,or_false]at hx;rcases hx with rfl|rfl<;>rfl) (fun x hx=>by simp only [zph,List.not_mem_nil,or_false]at hx;rcases hx with rfl|rfl<;>rfl)) (aj (av rfl) (az)))))))))))) rfl ?_;cbv))))
  all_goals exact ha () trivial _ _ (Wk.weak (wkM [some 0,none,none,some 3,some 8,some 9,some 5,some 11,some 12,some 13] zr9 ⟨.inr (wqB rfl ⟨zr5,zpt⟩),.inl rfl,.inl rfl,.inr (wqE rfl rfl),.inr (wqE rfl hc),.inr (wqE rfl hb),.inr (wqE rfl rfl),.inr (wqE rfl rfl),.inr (wqE rfl rfl),.inr (wqE rfl rfl),zpt⟩ (by decide) ⟨.inl rfl,.inl rfl,.inr rfl,zpt⟩ ⟨.inl rfl,.inl rfl,.inr ⟨_,rfl⟩,zpt⟩))
 cbv
 refine bP hg he bq [0,1,2,3,4,5,6,7,8,9,10,11,12,13,15,16,17,18] (.op 14 [] (.op 19 [20,21] (.op 22 [] .done .none) .none) (.op 19 [] (.op 14 [20,21] (.op 22 [] .done .none) .none) .none)) (by kernel_rfl) (by kernel_rfl) (S:=Unit) (fun _=>True) (fun _=>[(0,.p 0),(10,.p 3),(20,.p 6)]) (fun _=>[.bx 91 5 [.view V,.B rtl,.B keeps,.own 4,.own 5],.gn,.gn,.bx 45 5 [.J 0,.J 0,.J 0,.J 0,.J 0],.rw ⟨157,10,M2⟩,.rw ⟨172,6,A2⟩,.bx 45 5 [.J kid,.J P1,.J P2,.J fw,.J fh]]) (fun BL ha=> ?_) (fun _ _=> ?_)
 ·cbv
  ((repeat'(first|exact trivial|exact rfl|refine And.intro ?_ ?_|(refine fy hg a2 (bv rfl (aj (av rfl) (aj (av rfl) (aj (av rfl) (aj (av rfl) (aj (av rfl) (aj (av rfl) (aj (av rfl) (aj (aX (ab:=⟨_,_,[[.imm (.int .i64 x2.border.top)],[.imm (.int .i64 x2.border.bottom)]]⟩) rfl (fun x hx=>by simp only [zph,List.not_mem_nil,or_false]at hx;rcases hx with rfl|rfl<;>rfl) (fun x hx=>by simp only [zph,List.not_mem_nil,or_false]at hx;rcases hx with rfl|rfl<;>rfl)) (aj (aX (ab:=⟨_,_,[[.imm (.int .i64 r1)],[.imm (.int .i64 r3)]]⟩) rfl (fun x hx=>by simp only [zph,List.not_mem_nil,or_false]at hx;rcases hx with rfl|rfl<;>rfl) (fun x hx=>by simp only [zph,List.not_mem_nil,or_false]at hx;rcases hx with rfl|rfl<;>rfl)) (aj (av rfl) (az)))))))))))) rfl ?_;cbv))))
  all_goals exact ha () trivial _ _ (Wk.weak (wkM [some 0,none,none,some 3,some 4,some 5,some 9] zr3 ⟨.inr (wqB rfl ⟨zr5,zpt⟩),.inl rfl,.inl rfl,.inr (wqE rfl rfl),.inr (wqE rfl hc),.inr (wqE rfl hb),.inr (wqE rfl rfl),zpt⟩ (by decide) ⟨.inl rfl,.inl rfl,.inr rfl,zpt⟩ ⟨.inl rfl,.inl rfl,.inr ⟨_,rfl⟩,zpt⟩))
 cbv
 exact sK 4 5 hF rfl rfl rfl rfl rfl (by decide) rfl hc hb
def cU(c:Nat):Nat->Nat
 |0=>c
 |f+1=>c+12*(c+cU c f)
theorem cU3:cU 65641 3<=247400929:=by decide
theorem z9{bx:Bx}{rtl:Bool}{n w h:Int}{fr:List ag}{R:Int->List Int}{U:Int->Int->Int->St->List ag×St}{c e:Nat}(hb:∀w h st,(bx k w h st).2.1.length<=st.1.length+c/\(bx k w h st).2.2.length<=st.2.length+c)(hU:∀w h st,(U k w h st).2.1.length<=st.1.length+e/\(U k w h st).2.2.length<=st.2.length+e)(st:St):(un1 bx ns rtl n w h fr R U k st).2.1.length<=st.1.length+(c+e)/\(un1 bx ns rtl n w h fr R U k st).2.2.length<=st.2.length+(c+e):=by
 unfold un1
 split
 ·exact⟨Nat.le_add_right ..,Nat.le_add_right ..⟩
 ·dsimp only
  have h1:(frS bx ns rtl n w h fr k st).2.1.length<=st.1.length+c/\(frS bx ns rtl n w h fr k st).2.2.length<=st.2.length+c:=by
   unfold frS
   split
   ·exact hb ..
   ·exact⟨Nat.le_add_right ..,Nat.le_add_right ..⟩
  have h2:=hU (frS bx ns rtl n w h fr k st).1.wide (frS bx ns rtl n w h fr k st).1.high (frS bx ns rtl n w h fr k st).2
  omega
theorem z7{f:Int->St->List ag×St}{e:Nat}:∀(ks:List Int),(∀k∈ks,∀st,(f k st).2.1.length<=st.1.length+e/\(f k st).2.2.length<=st.2.length+e)->∀st,(unL f ks st).2.1.length<=st.1.length+ks.length*e/\(unL f ks st).2.2.length<=st.2.length+ks.length*e
 | [],_,st=>⟨Nat.le_add_right ..,Nat.le_add_right ..⟩
 |k::r,h,st=>by
  have h1:=h k (zpd ..) st
  have h2:=z7 r (fun x hx=>h x (zpe _ hx)) (f k st).2
  show(unL f r (f k st).2).2.1.length<=_/\(unL f r (f k st).2).2.2.length<=_
  rw [zqx,Nat.succ_mul]
  omega
theorem xz{ns:List ae}(ht:dl ns=true){bx:Bx}{c:Nat}(hb:∀k,isN ns k=true->∀w h st,(bx k w h st).2.1.length<=st.1.length+c/\(bx k w h st).2.2.length<=st.2.length+c)(rtl:Bool):∀(f:Nat)(n:Int),isN ns n=true->∀(w h:Int)(st:St),(Eh bx ns rtl f n w h st).2.1.length<=st.1.length+cU c f/\(Eh bx ns rtl f n w h st).2.2.length<=st.2.length+cU c f
 |0,n,hn,w,h,st=>hb n hn ..
 |f+1,n,hn,w,h,st=>by
  obtain⟨n1,n2,x,hx⟩:=bd hn
  have ha:=fk ht n1 hx
  have h0:=hb n hn ⟨3,w⟩ ⟨3,h⟩ st
  have h1:=z7 (f:=un1 bx ns rtl n w h (bx n ⟨3,w⟩ ⟨3,h⟩ st).1.frames (zW ns f) (Eh bx ns rtl f)) (e:=c+cU c f) (kt ns n) (fun k hk hc=>z9 (hb k (ha k (by rw [<-kr hx];exact hk))) (xz ht hb rtl f k (ha k (by rw [<-kr hx];exact hk))) hc) (bx n ⟨3,w⟩ ⟨3,h⟩ st).2
  have h2:=zpf (c+cU c f) (sD ht n)
  show(unL _ _ _).2.1.length<=_+(c+12*(c+cU c f))/\(unL _ _ _).2.2.length<=_+(c+12*(c+cU c f))
  omega
theorem lX(ns:List ae)(hs:∀y∈ns,ae.small y)(ht:dl ns=true)(n:Int)(nd:ae)(h1:isN ns n=true)(hl:ns.length<=1048576)(hnx:ns[(n-1).toNat]? =some nd)(hkl:nd.kids.length<=12)(c:Nat)(hc12:12*c+1<=1048576)(R:Int->List Int)(hR:∀k∈nd.kids,bS prog 138 [.agg [.view (vwA ae.ac ns)],ai k] fun res ha=>res= .o 0/\ha=[⟨3,1,vw ak (R k)⟩])(hRl:∀k∈nd.kids,(R k).length<=c):bS prog 138 [.agg [.view (vwA ae.ac ns)],ai n] fun res ha=>res= .o 0/\ha=[⟨3,1,vw ak (n::nd.kids.flatMap R)⟩]:=by
 have cF:=fun k(h:k∈nd.kids)=>fZ (hR k h) (xj (c:=ak) (k:=1) fun _=>rfl) jc
 clear hR
 have cT:=jZ ns hl hs
 have cI:=gW (vwA ae.ac ns) n
 have hv:aN (vwA ae.ac ns)=(ns.length:Int):=by rw [ao,bu]
 rw [hv]at cI
 change PC0 _ _ (.t (abl (isN ns n)))at cI
 rw [h1]at cI
 rw [ht]at cT
 obtain⟨W,hW⟩:=nmE (n::nd.kids.flatMap R)
 have hE:W.length<=1048576:=by
  rw [hW,zqx]
  have h2:=yl R c nd.kids hRl
  have h3:=zpf c hkl
  omega
 rw [<-hW]
 have b2:=bd h1
 obtain⟨V,hV⟩:=nmE (vwA ae.ac ns)
 obtain⟨Rt,hu⟩:=nmE (vw aC.c nd.table.rules)
 obtain⟨K,hK⟩:=nmE (vw ak nd.kids)
 have hC:K.length=nd.kids.length:=by rw [hK,ar]
 have cy:=bg ns n nd b2.1 (by have:=b2.2.1;omega) hnx V K Rt hV hK hu
 simp only [<-hV]at cF
 rw [<-hV]at cT cI⊢
 obtain⟨Z,hZ⟩:=nmE (vw ak W)
 rw [<-hZ]
 have hk:nd.kids.length<=1048576:=by omega
 refine rU [(9,.hand)] func138 fun g hA hd F hj hn hg hF=> ?_
 cbv
 (repeat'((first|refine ad hg cT ?_|refine ad hg cI ?_|refine ad hg cy ?_|refine dg hg rfl (by decide) (by decide) ?_;cbv;rw [fI hg]);cbv))
 refine iA ([(9,.hand)]) ([]) hj hn hg bq (by kernel_rfl) K (fun x=>lc (ak x)) nd.kids hK hk (fun z(s:List Int×LLA)=>[(2,.p 0),(5,.o 1),(6,.v K),(7,.i (z))]) (fun z(s:List Int×LLA)=>[.bx 28 1 [.view V],.rw ⟨3,1,s.2⟩]) (fun z(s:List Int×LLA)=>s.2=vw ak s.1) (fun(s:List Int×LLA) rest=>s.1++rest.flatMap R) (W) ([n],[[.J n]]) (by rw [hW];rfl) rfl (Wk.weak (wkG [some _,some 3] zr4 ⟨wqE rfl rfl,wqE rfl rfl,zpt⟩ (by decide) aB)) (fun z s B hz h0 hi he=> ?_) (fun z s x rest B z0 z1 z2 hx hy h0 hi hc e1 hB=> ?_)
 ·obtain⟨hf,E⟩:=s
  dsimp only at hi h0
  have pE:=pmV hi
  obtain rfl:hf=W:=by simpa using h0
  rw [hZ,<-hi]at hF
  cbv;rw [he];cbv
  exact bN hF rfl pE
 ·obtain⟨hf,E⟩:=s
  dsimp only at hi h0
  have ho:x∈nd.kids:=zqd hx
  have cF:=cF x ho
  have hw:=hRl x ho
  obtain⟨Q,hQ⟩:=nmE (vw ak (R x))
  have hD:Q.length=(R x).length:=by rw [hQ,ar]
  have kQ:=kmV (k:=1) hQ fun _=>rfl
  rw [<-hQ]at cF
  have hb:=congrArg List.length h0
  rw [zqe]at hb
  have hr:E.length<=1073741824:=by rw [hi,ar];omega
  have hh:Q.length<=1073741824:=by omega
  have h3:(hf++R x)++rest.flatMap R=W:=by rw [<-h0];simp
  have aE:E++Q=vw ak (hf++R x):=by rw [hi,hQ,zY]
  obtain⟨E2,hm⟩:=nmE (E++Q)
  rw [<-hm]at aE
  have hp:=pmV aE
  clear hb hw
  cbv
  rw [hc]
  cbv
  refine bP hg hn bq [1,2,3,4,5,6] (.op 0 [] (.op 7 [] (.op 8 [] .done .none) .none) .none) (by kernel_rfl) (by kernel_rfl) (S:=Unit) (fun _=>True) (fun _=>[(2,.p 0),(5,.o 1),(6,.v K),(7,.i (z))]) (fun _=>[.bx 28 1 [.view V],.rw ⟨3,1,E2⟩]) (fun BL hq=> ?_) (fun _ _=> ?_)
  ·cbv
   ((repeat'(first|exact trivial|exact rfl|refine And.intro ?_ ?_|((first|refine aa hg cF ?_|refine goX hg _ z0 hy rfl ?_|refine Iy hg kQ (by decide) hr hh ?_;cbv;rw [fI hg,<-hm]);cbv))))
   all_goals exact hq () trivial _ _ (Wk.weak (wkG [some _,some 2] zr4 ⟨wqE rfl rfl,wqE rfl hp,zpt⟩ (by decide) aB))
  cbv
  ((repeat'(rw [e1];cbv)))
  skip
  exact hB ((hf++R x,E2)) _ _ ⟨h3,aE⟩ (Wk.weak (wkG [some _,some 1] zr4 ⟨wqE rfl rfl,wqE rfl hp,zpt⟩ (by decide) aB))
theorem lY(ns:List ae)(hl:ns.length<=1048576)(hs:∀y∈ns,ae.small y)(ht:dl ns=true):∀(f:Nat),f<=3->∀n:Int,isN ns n=true->4<=qg ns n+(f:Int)->bS prog 138 [.agg [.view (vwA ae.ac ns)],ai n] fun res ha=>res= .o 0/\ha=[⟨3,1,vw ak (zW ns f n)⟩]
 |0,_,n,hn,hd=>by
  obtain⟨n1,n2,x,hx⟩:=bd hn
  have hk:=oy ht hn hx (by omega)
  have:=lX ns hs ht n x hn hl hx (by rw [hk];simp) 0 (by decide) (fun _=>[]) (by rw [hk];simp) (by rw [hk];simp)
  rw [hk]at this
  exact this
 |f+1,hf,n,hn,hd=>by
  obtain⟨n1,n2,x,hx⟩:=bd hn
  have he:=lB ht n1 hx
  have hc:=fk ht n1 hx
  have hb:12*(uN f+1)+1<=1048576:=by have:=CF (show f<=3 by omega);omega
  have:=lX ns hs ht n x hn hl hx he (uN f+1) hb (zW ns f) (fun k hk=>lY ns hl hs ht f (by omega) k (hc k hk) (by have:=nJ ht n1 hx k hk;omega)) (fun k _=>mH ht f k)
  rw [<-kr hx]at this
  exact this
theorem td(V:LLA)(n:Int)(xs:List Int)(hxl:xs.length<=1048576)(hA:bS prog 138 [.agg [.view V],ai n] fun res ha=>res= .o 0/\ha=[⟨3,1,vw ak xs⟩]):bS prog 91 [.agg [.view V],ai n] fun res ha=>res= .o 0/\ha=[⟨45,5,vw ag.c (wS xs)⟩]:=by
 have cA:=fZ hA (xj (c:=ak) (k:=1) fun _=>rfl) jc
 clear hA
 unfold wS
 obtain⟨W,hW⟩:=nmE (xs.map fun k=>(⟨k,0,0,0,0⟩:ag))
 have hl:W.length<=1048576:=by rw [hW,zql];exact hxl
 rw [<-hW]
 obtain⟨K,hK⟩:=nmE (vw ak xs)
 have hk:=lmV hK
 rw [<-hK]at cA
 obtain⟨Z,hZ⟩:=nmE (vw ag.c W)
 rw [<-hZ]
 refine aV func91 fun g F hg hF=> ?_
 cbv
 (repeat'(refine ad hg cA ?_;cbv))
 refine aQ hg bq (by kernel_rfl) K (fun x=>lc (ak x)) xs hK hxl (fun z(s:List ag×LLA)=>[(2,.p 0),(5,.o 1),(6,.v K),(7,.i (z))]) (fun z(s:List ag×LLA)=>[.bx 28 1 [.view V],.rw ⟨45,5,s.2⟩]) (fun z(s:List ag×LLA)=>s.2=vw ag.c s.1) (fun(s:List ag×LLA) rest=>s.1++rest.map (fun k=>(⟨k,0,0,0,0⟩:ag))) (W) ([],[]) (by rw [hW];rfl) rfl (Wk.weak (wkG [some _,some _] zr4 ⟨wqE rfl rfl,wqE rfl rfl,zpt⟩ (by decide) aB)) (fun z s B hz h0 hi he=> ?_) (fun z s x rest B z0 z1 z2 hx hy h0 hi hc e1 hB=> ?_)
 ·obtain⟨hd,E⟩:=s
  dsimp only at hi h0
  have pE:=pmV hi
  obtain rfl:hd=W:=by simpa using h0
  rw [hZ,<-hi]at hF
  cbv;rw [he];cbv
  exact bN hF rfl pE
 ·obtain⟨hd,E⟩:=s
  dsimp only at hi h0
  have hb:=congrArg List.length h0
  rw [zqe]at hb
  have hh:E.length<=1048576:=by rw [hi,ar];omega
  have h3:(hd++[(⟨x,0,0,0,0⟩:ag)])++rest.map (fun k=>(⟨k,0,0,0,0⟩:ag))=W:=by rw [<-h0];simp
  have aE:E++[[.J x,.J 0,.J 0,.J 0,.J 0]]=vw ag.c (hd++[(⟨x,0,0,0,0⟩:ag)]):=by rw [hi,bk];rfl
  obtain⟨E2,hf⟩:∃E2,E2=E++[[.J x,.J 0,.J 0,.J 0,.J 0]]:=⟨_,rfl⟩
  rw [<-hf]at aE
  have hj:=pmV aE
  clear hb
  cbv
  rw [hc]
  cbv
  (repeat'((first|rw [e1]|refine goX hg _ z0 hy rfl ?_|refine dg hg rfl (by decide) hh ?_;cbv;rw [fI hg,<-hf]);cbv))
  exact hB ((hd++[(⟨x,0,0,0,0⟩:ag)],E2)) _ _ ⟨h3,aE⟩ (Wk.weak (wkG [some _,some 3] zr4 ⟨wqE rfl rfl,wqE rfl hj,zpt⟩ (by decide) aB))
theorem tf(ns:List ae)(hl:ns.length<=1048576)(hs:∀y∈ns,ae.small y)(ht:dl ns=true)(f:Nat)(hf:f<=3)(n:Int)(hn:isN ns n=true)(hd:4<=qg ns n+(f:Int)):bS prog 91 [.agg [.view (vwA ae.ac ns)],ai n] fun res ha=>res= .o 0/\ha=[⟨45,5,vw ag.c (wS (zW ns f n))⟩]:=
 td _ n _ (by have:=mH ht f n;have:=CF hf;omega) (lY ns hl hs ht f hf n hn hd)
theorem lC(ns:List ae)(hl:ns.length<=1048576)(n:Int)(nd:ae)(h1:isN ns n=true)(hnx:ns[(n-1).toNat]? =some nd)(hkl:nd.kids.length<=12)(hkd:∀k∈nd.kids,isN ns k=true)(rtl keeps:Bool)(bx:Bx)(c L e:Nat)(hbn:yD (vwA ae.ac ns) rtl keeps bx c L n)(hbk:∀k∈nd.kids,yD (vwA ae.ac ns) rtl keeps bx c L k)(R:Int->List Int)(lb:Nat)(hlb:12*(lb+1)<=1048576)(hR:∀k∈nd.kids,bS prog 91 [.agg [.view (vwA ae.ac ns)],ai k] fun res xo=>res= .o 0/\xo=[⟨45,5,vw ag.c (wS (R k))⟩])(xb:∀k,(R k).length<=lb+1)
  (U:Int->Int->Int->St->List ag×St) (hU:∀k∈nd.kids,∀w h st,st.1.length+e<=L->st.2.length+e<=L->SE prog 58 (sR (vwA ae.ac ns) rtl keeps) (SM st.1) (SA st.2) [.c (.ptr 0 0 0),ai k,ai w,ai h] (.t (.c (.view (vw ag.c (U k w h st).1)))) (SM (U k w h st).2.1) (SA (U k w h st).2.2)) (hUg:∀k∈nd.kids,∀w h st,(U k w h st).2.1.length<=st.1.length+e/\(U k w h st).2.2.length<=st.2.length+e) (hUl:∀k w h st,(U k w h st).1.length<=lb) (w h:Int) (st:St) (hbl:(bx n ⟨3,w⟩ ⟨3,h⟩ st).1.frames.length<=1048576) (hm:st.1.length+(c+nd.kids.length*(c+e))<=L) (hq:st.2.length+(c+nd.kids.length*(c+e))<=L):
  SE prog 58 (sR (vwA ae.ac ns) rtl keeps) (SM st.1) (SA st.2) [.c (.ptr 0 0 0),ai n,ai w,ai h] (.t (.c (.view (vw ag.c (unL (un1 bx ns rtl n w h (bx n ⟨3,w⟩ ⟨3,h⟩ st).1.frames R U) nd.kids (bx n ⟨3,w⟩ ⟨3,h⟩ st).2).1)))) (SM (unL (un1 bx ns rtl n w h (bx n ⟨3,w⟩ ⟨3,h⟩ st).1.frames R U) nd.kids (bx n ⟨3,w⟩ ⟨3,h⟩ st).2).2.1) (SA (unL (un1 bx ns rtl n w h (bx n ⟨3,w⟩ ⟨3,h⟩ st).1.frames R U) nd.kids (bx n ⟨3,w⟩ ⟨3,h⟩ st).2).2.2):=by
 refine uL (t:=45) (k:=5) (V:=vw ag.c (unL (un1 bx ns rtl n w h (bx n ⟨3,w⟩ ⟨3,h⟩ st).1.frames R U) nd.kids (bx n ⟨3,w⟩ ⟨3,h⟩ st).2).1) (R:= .o 5) ?_ (xj (c:=ag.c) (k:=5) fun _=>rfl) jc rfl rfl rfl
 obtain⟨P,hP⟩:=nmE (nd.kids.length*(c+e))
 rw [<-hP]at hm hq
 have cG:=fun k(h:k∈nd.kids)=>fZ (hR k h) (xj (c:=ag.c) (k:=5) fun _=>rfl) jc
 have xs:∀hn∈nd.kids,∃y,ns[(hn-1).toNat]? =some y:=fun hn h=>(bd (hkd hn h)).2.2
 have xl:=fun hn(h:hn∈nd.kids) y hy Ky Ry=>bg ns hn y (bd (hkd hn h)).1 (by have:=(bd (hkd hn h)).2.1;omega) hy (vwA ae.ac ns) Ky Ry rfl
 have hW:=fun k(hk:k∈nd.kids) y hy st h1' h2'=>rx ns hl n k nd y h1 (hkd k hk) hnx hy rtl keeps bx c L (hbk k hk) st h1' h2' w h
 have xf:=fun k(hk:k∈nd.kids) ha=>z9 (ns:=ns) (rtl:=rtl) (n:=n) (w:=w) (h:=h) (fr:=(bx n ⟨3,w⟩ ⟨3,h⟩ st).1.frames) (R:=R) (hbk k hk).1 (hUg k hk) ha
 have xz:=fun k(hk:k∈nd.kids)=>(hbk k hk).1
 have cB:=hbn.2 3 w 3 h st (by omega) (by omega)
 have xy:=hbn.1 ⟨3,w⟩ ⟨3,h⟩ st
 have cF:=fun k=>tJ (bx n ⟨3,w⟩ ⟨3,h⟩ st).1.frames hbl k
 obtain⟨uf,hM⟩:=nmE (un1 bx ns rtl n w h (bx n ⟨3,w⟩ ⟨3,h⟩ st).1.frames R U)
 have hL:∀k y ha,ns[(k-1).toNat]? =some y->uf k ha=if y.style.hidden then(wS (R k),ha)else if y.style.apart then((apS bx ns rtl n k w h ha).1::(U k (apS bx ns rtl n k w h ha).1.wide (apS bx ns rtl n k w h ha).1.high (apS bx ns rtl n k w h ha).2).1,(U k (apS bx ns rtl n k w h ha).1.wide (apS bx ns rtl n k w h ha).1.high (apS bx ns rtl n k w h ha).2).2)else((frF k (bx n ⟨3,w⟩ ⟨3,h⟩ st).1.frames).1::(U k (frF k (bx n ⟨3,w⟩ ⟨3,h⟩ st).1.frames).1.wide (frF k (bx n ⟨3,w⟩ ⟨3,h⟩ st).1.frames).1.high ha).1,(U k (frF k (bx n ⟨3,w⟩ ⟨3,h⟩ st).1.frames).1.wide (frF k (bx n ⟨3,w⟩ ⟨3,h⟩ st).1.frames).1.high ha).2):=fun k y ha hy=>by
  rw [hM]
  unfold un1 frS
  rw [gj hy]
  cases q:y.style.apart<;>simp only [Bool.false_eq_true,if_false,if_true]
 have xC:∀k ha,(uf k ha).1.length<=lb+1:=fun k ha=>by
  rw [hM]
  unfold un1
  split
  ·unfold wS;rw [zql];exact xb k
  ·rw [zqx];have:=hUl k (frS bx ns rtl n w h (bx n ⟨3,w⟩ ⟨3,h⟩ st).1.frames k ha).1.wide (frS bx ns rtl n w h (bx n ⟨3,w⟩ ⟨3,h⟩ st).1.frames k ha).1.high (frS bx ns rtl n w h (bx n ⟨3,w⟩ ⟨3,h⟩ st).1.frames k ha).2;omega
 rw [<-hM]
 simp only [<-hM]at xf
 obtain⟨fA,xe⟩:∃f:Int->St->ag×St,f=fun hn st=>apS bx ns rtl n hn w h st:=⟨_,rfl⟩
 have xw:∀k st,apS bx ns rtl n k w h st=fA k st:=fun k st=>by rw [xe]
 have xx:∀k∈nd.kids,∀st,(fA k st).2.1.length<=st.1.length+c/\(fA k st).2.2.length<=st.2.length+c:=fun k hk st=>by rw [xe];exact xz k hk ..
 simp only [xw]at hW hL
 clear xw xe hM xz hbn hbk hR xb hUl
 obtain⟨it,hY⟩:∃it,it=fun ks st=>unL uf ks st:=⟨_,rfl⟩
 have hJ:∀ks st,unL uf ks st=it ks st:=fun ks st=>by rw [hY]
 have xA:∀st,it [] st=([],st):=fun st=>by rw [hY];rfl
 have xh:∀k r st,it (k::r) st=((uf k st).1++(it r (uf k st).2).1,(it r (uf k st).2).2):=fun k r st=>by rw [hY];rfl
 simp only [hJ]
 clear hY hJ
 obtain⟨⟨q,ha⟩,xk⟩:∃q,q=bx n ⟨3,w⟩ ⟨3,h⟩ st:=⟨_,rfl⟩
 rw [<-xk]at cB xy⊢
 simp only [<-xk]at cF hL
 dsimp only at cB xy cF hL⊢
 rw [acE]at cB
 obtain⟨bw,xv⟩:=nmE q.wide
 obtain⟨bh,xu⟩:=nmE q.high
 obtain⟨bb,xt⟩:=nmE q.base
 rw [<-xv,<-xu,<-xt]at cB
 obtain⟨FR,h8⟩:=nmE (vw ag.c q.frames)
 rw [<-h8]at cB
 simp only [<-h8]at cF
 have b2:=bd h1
 obtain⟨V,hV⟩:=nmE (vwA ae.ac ns)
 obtain⟨Rt,xq⟩:=nmE (vw aC.c nd.table.rules)
 obtain⟨K,hK⟩:=nmE (vw ak nd.kids)
 have xO:K.length=nd.kids.length:=by rw [hK,ar]
 have cy:=bg ns n nd b2.1 (by have:=b2.2.1;omega) hnx V K Rt hV hK xq
 rw [<-hV]at cB⊢
 simp only [<-hV]at cG xl hW hU
 obtain⟨RR,xa⟩:=nmE (it nd.kids ha)
 rw [<-xa]
 have xi:nd.kids.length<=1048576:=by omega
 have xb:RR.1.length<=1048576:=by
  rw [xa]
  have:∀ks:List Int,∀st,(it ks st).1.length<=ks.length*(lb+1):=by
   intro ks
   induction ks with
   |nil=>intro st;rw [xA];exact zpn _
   |cons k ks ih=>
    intro st
    rw [xh,zqe,zqx,Nat.succ_mul]
    have:=xC k st
    have:=ih (uf k st).2
    omega
  have h2:=this nd.kids ha
  have h3:=zpf (lb+1) hkl
  omega
 have pM:=bD st.1
 have pA:=bG st.2
 generalize hM0:SM st.1=M0 at cB pM
 generalize hA0:SA st.2=A0 at cB pA
 obtain⟨M1,h9⟩:=nmE (SM ha.1)
 obtain⟨A1,hZ⟩:=nmE (SA ha.2)
 have xL:ay M1=true:=by rw [h9];exact bD _
 have xJ:ay A1=true:=by rw [hZ];exact bG _
 rw [<-h9,<-hZ]at cB
 clear xv xu xt h8 xk hkd xq hV hM0 hA0 xC
 refine mC [(9,.hand),(10,.hand),(14,.hand)] func58 (fun g xN hd F xd hX hg hF=> ?_)
 cbv
 (repeat'((first|refine ad hg cy ?_|refine gl rfl hg 0 1 2 cB rfl rfl rfl (by decide) rfl pM pA ⟨rfl,rfl,.inl ⟨rfl,rfl⟩,.inl ⟨rfl,rfl⟩,zpt⟩ rfl ?_);cbv))
 refine iA ([(9,.hand),(10,.hand),(14,.hand)]) ([]) xd hX hg bq (by kernel_rfl) K (fun x=>lc (ak x)) nd.kids hK xi (fun z(s:(List ag×St)×LLA×LLA×LLA)=>[(0,.p 0),(1,.i (n)),(2,.i (w)),(3,.i (h)),(9,.o 6),(10,.p 3),(11,.v K),(12,.i (z))]) (fun z(s:(List ag×St)×LLA×LLA×LLA)=>[.bx 91 5 [.view V,.B rtl,.B keeps,.own 4,.own 5],.gn,.gn,.bx 127 4 [.J bw,.J bh,.J bb,.view FR],.rw ⟨157,10,s.2.1⟩,.rw ⟨172,6,s.2.2.1⟩,.rw ⟨45,5,s.2.2.2⟩]) (fun z(s:(List ag×St)×LLA×LLA×LLA)=>s.2.1=SM s.1.2.1/\s.2.2.1=SA s.1.2.2/\s.2.2.2=vw ag.c s.1.1/\s.1.2.1.length<=ha.1.length+z.toNat*(c+e)/\s.1.2.2.length<=ha.2.length+z.toNat*(c+e)) (fun(s:(List ag×St)×LLA×LLA×LLA) rest=>(s.1.1++(it rest s.1.2).1,(it rest s.1.2).2)) (RR) (([],ha),M1,A1,[]) (by rw [xa];rfl) ⟨h9,hZ,rfl,by simp,by simp⟩ (Wk.weak (wkM [some 0,none,none,some 6,some 4,some 5,some 3] zr8 ⟨.inr (wqB rfl ⟨zr5,zpt⟩),.inl rfl,.inl rfl,.inr (wqE rfl rfl),.inr (wqE rfl xL),.inr (wqE rfl xJ),.inr (wqE rfl rfl),zpt⟩ (by decide) ⟨.inl rfl,.inl rfl,.inr rfl,zpt⟩ ⟨.inl rfl,.inl rfl,.inr ⟨_,rfl⟩,zpt⟩)) (fun z s B hz h0 hi he=> ?_) (fun z s x rest B z0 z1 z2 hx hy h0 hi hc e1 hB=> ?_)
 ·obtain⟨⟨hv,hh⟩,M2,A2,E⟩:=s
  obtain⟨i1,i2,i3,i4,i5⟩:=hi
  dsimp only at i1 i2 i3 h0
  obtain rfl:RR=(hv,hh):=by rw [<-h0,xA];simp
  have xM:ay M2=true:=by rw [i1];exact bD _
  have xK:ay A2=true:=by rw [i2];exact bG _
  have pE:=pmV i3
  cbv;rw [he];cbv
  subst i1 i2 i3
  exact Ch 4 5 6 hF rfl rfl rfl rfl rfl rfl (by decide) rfl xM xK pE
 obtain⟨⟨hv,hh⟩,M2,A2,E⟩:=s
 obtain⟨i1,i2,i3,i4,i5⟩:=hi
 dsimp only at i1 i2 i3 i4 i5 h0
 have ht:x∈nd.kids:=zqd hx
 obtain⟨y,xm⟩:=xs x ht
 rw [xh x rest hh]at h0
 have hj:=hL x y hh xm
 have xg:=xf x ht hh
 have xn:z.toNat+1<=nd.kids.length:=(zqb.1 hx).1
 have xI:=zpf (c+e) xn
 rw [Nat.succ_mul,<-hP]at xI
 have cG:=cG x ht
 have cF:=cF x
 have cy:=xl x ht y xm _ _ rfl rfl
 obtain⟨Ky,xp⟩:=nmE (vw ak y.kids)
 obtain⟨Ry,xr⟩:=nmE (vw aC.c y.table.rules)
 rw [<-xp,<-xr]at cy
 have pM:ay M2=true:=by rw [i1];exact bD _
 have pA:ay A2=true:=by rw [i2];exact bG _
 have pE:=pmV i3
 have hf:=congrArg (fun r=>r.1.length) h0
 simp only [zqe]at hf
 have xH:E.length<=1048576:=by rw [i3,ar];omega
 have h7:E.length<=1073741824:=by omega
 obtain⟨⟨ux,ho⟩,hN⟩:∃u,u=uf x hh:=⟨_,rfl⟩
 rw [<-hN]at hj xg h0 hf
 dsimp only at xg h0 hf
 have h3:((hv++ux)++(it rest ho).1,(it rest ho).2)=RR:=by rw [<-h0];simp
 obtain⟨E2,hD⟩:=nmE (E++vw ag.c ux)
 have aE:E2=vw ag.c (hv++ux):=by rw [hD,i3,zY]
 have hS:=pmV aE
 have xE:(z+1).toNat=z.toNat+1:=by omega
 have j1:ho.1.length<=ha.1.length+(z+1).toNat*(c+e):=by rw [xE,Nat.succ_mul];omega
 have j2:ho.2.length<=ha.2.length+(z+1).toNat*(c+e):=by rw [xE,Nat.succ_mul];omega
 obtain⟨M5,hG⟩:=nmE (SM ho.1)
 obtain⟨A5,hC⟩:=nmE (SA ho.2)
 have hT:ay M5=true:=by rw [hG];exact bD _
 have hO:ay A5=true:=by rw [hC];exact bG _
 clear xp xr xs hL xl xf hN xh xg
 obtain⟨⟨⟨p0,p1,p2,p3,p4⟩,pb⟩,xB⟩:∃r,r=frF x q.frames:=⟨_,rfl⟩
 rw [<-xB]at cF hj
 have hA:=hW x ht y xm hh (by omega) (by omega)
 have hI:=xx x ht hh
 have xc:=hU x ht
 clear hW hU hUg xx xB
 obtain⟨x0,x1,ys,x3,x4⟩:=y
 dsimp only at *
 cases hH:ys.hidden
 case true=>
  rw [hH,if_pos rfl]at hj
  obtain⟨rfl,rfl⟩:=Prod.mk.inj hj
  generalize hQ:vw ag.c (wS (R x))=Q at cG hD;replace hQ:=hQ.symm
  have kQ:=kmV (k:=5) hQ fun _=>rfl
  have hs:Q.length<=1073741824:=by rw [hQ,ar];omega
  obtain rfl:M5=M2:=by rw [hG,i1]
  obtain rfl:A5=A2:=by rw [hC,i2]
  clear cF xc hA hI hf
  cbv
  rw [hc]
  cbv
  ((repeat'((first|refine aa hg cy ?_|refine goX hg _ z0 hy rfl ?_);cbv)))
  (split<;>rename_i hq<;>first|exact absurd (hq.symm.trans hH) (by decide)|cbv)
  refine bP hg hX bq [1,2,3,4,5,6,7,8,9] (.op 0 [] (.op 10 [] (.op 11 [] .done .none) .none) .none) (by kernel_rfl) (by kernel_rfl) (S:=Unit) (fun _=>True) (fun _=>[(0,.p 0),(1,.i (n)),(2,.i (w)),(3,.i (h)),(9,.o 6),(10,.p 3),(11,.v K),(12,.i (z))]) (fun _=>[.bx 91 5 [.view V,.B rtl,.B keeps,.own 4,.own 5],.gn,.gn,.bx 127 4 [.J bw,.J bh,.J bb,.view FR],.rw ⟨157,10,M5⟩,.rw ⟨172,6,A5⟩,.rw ⟨45,5,E2⟩]) (fun BL hu=> ?_) (fun _ _=> ?_)
  ·cbv
   ((repeat'(first|exact trivial|exact rfl|refine And.intro ?_ ?_|((first|refine aa hg cG ?_|refine goX hg _ z0 hy rfl ?_|refine Iy hg kQ (by decide) h7 hs ?_;cbv;rw [fI hg,<-hD]);cbv))))
   all_goals exact hu () trivial _ _ (Wk.weak (wkM [some 0,none,none,some 3,some 4,some 5,some 8] zr8 ⟨.inr (wqB rfl ⟨zr5,zpt⟩),.inl rfl,.inl rfl,.inr (wqE rfl rfl),.inr (wqE rfl hT),.inr (wqE rfl hO),.inr (wqE rfl hS),zpt⟩ (by decide) ⟨.inl rfl,.inl rfl,.inr rfl,zpt⟩ ⟨.inl rfl,.inl rfl,.inr ⟨_,rfl⟩,zpt⟩))
  cbv
  ((repeat'(rw [e1];cbv)))
  skip
  exact hB (((hv++wS (R x),ho),M5,A5,E2)) _ _ ⟨h3,⟨hG,hC,aE,j1,j2⟩⟩ (Wk.weak (wkM [some 0,none,none,some 3,some 4,some 5,some 6] zr8 ⟨.inr (wqB rfl ⟨zr5,zpt⟩),.inl rfl,.inl rfl,.inr (wqE rfl rfl),.inr (wqE rfl hT),.inr (wqE rfl hO),.inr (wqE rfl hS),zpt⟩ (by decide) ⟨.inl rfl,.inl rfl,.inr rfl,zpt⟩ ⟨.inl rfl,.inl rfl,.inr ⟨_,rfl⟩,zpt⟩))
 rw [hH,if_neg (by simp)]at hj
 obtain⟨⟨r0,r1,r2,r3,r4⟩,hr⟩:∃r:ag,r=if ys.apart=true then(fA x hh).1 else⟨p0,p1,p2,p3,p4⟩:=⟨_,rfl⟩
 obtain⟨hp,hb⟩:∃r:St,r=if ys.apart=true then(fA x hh).2 else hh:=⟨_,rfl⟩
 have hj:(ux,ho)=(⟨r0,r1,r2,r3,r4⟩::(U x r3 r4 hp).1,(U x r3 r4 hp).2):=by
  rw [hj]
  split at hr
  ·rename_i h;rw [if_pos h]at hb;rw [if_pos h,<-hr,<-hb]
  ·rename_i h;rw [if_neg h]at hb;rw [if_neg h,hb];cases hr;rfl
 have b4:hp.1.length+e<=L/\hp.2.length+e<=L:=by rw [hb];split<;>constructor<;>omega
 have cU:=xc r3 r4 hp b4.1 b4.2
 obtain⟨⟨uu,xP⟩,xD⟩:∃r,r=U x r3 r4 hp:=⟨_,rfl⟩
 rw [<-xD]at cU hj
 dsimp only at hj
 obtain⟨rfl,rfl⟩:=Prod.mk.inj hj
 dsimp only at cU
 obtain⟨M4,hE⟩:=nmE (SM hp.1)
 obtain⟨A4,hw⟩:=nmE (SA hp.2)
 have xG:ay M4=true:=by rw [hE];exact bD _
 have xF:ay A4=true:=by rw [hw];exact bG _
 rw [<-i1,<-i2]at hA
 rw [<-hE,<-hw,<-hG,<-hC]at cU
 generalize hQ:vw ag.c uu=Q at cU;replace hQ:=hQ.symm
 have kQ:=kmV (k:=5) hQ fun _=>rfl
 have hs:Q.length<=1073741824:=by rw [hQ,ar];rw [zqx]at hf;omega
 obtain⟨E1,h4⟩:∃E1,E1=E++[[.J r0,.J r1,.J r2,.J r3,.J r4]]:=⟨_,rfl⟩
 have h5:E2=E1++Q:=by rw [hD,h4,hQ];simp [vw];rfl
 have h6:E1.length<=1073741824:=by rw [h4,zqe,zqm];omega
 clear hQ xD cG hD xc hI hf b4
 cbv
 rw [hc]
 cbv
 ((repeat'((first|refine aa hg cy ?_|refine goX hg _ z0 hy rfl ?_);cbv)))
 (split<;>rename_i hq<;>first|exact absurd (hq.symm.trans hH) (by decide)|cbv)
 refine bP hg hX bq [0,1,2,3,4,5,6,7,8] (.op 9 [] (.op 10 [] (.op 11 [12] .done .none) .none) (.op 10 [] (.op 9 [] (.op 11 [12] .done .none) (.op 11 [] (.op 9 [12] .done .none) .none)) .none)) (by kernel_rfl) (by kernel_rfl) (S:=Unit) (fun _=>True) (fun _=>[(0,.p 0),(1,.i (n)),(2,.i (w)),(3,.i (h)),(9,.o 6),(10,.p 3),(11,.v K),(12,.i (z)),(13,.p 7),(14,.p 8)]) (fun _=>[.bx 91 5 [.view V,.B rtl,.B keeps,.own 4,.own 5],.gn,.gn,.bx 127 4 [.J bw,.J bh,.J bb,.view FR],.rw ⟨157,10,M2⟩,.rw ⟨172,6,A2⟩,.rw ⟨45,5,E⟩,.bx 36 60 (lc (ah.c ys)),.bx 45 5 [.J p0,.J p1,.J p2,.J p3,.J p4]]) (fun BL hu=> ?_) (fun _ _=> ?_)
 ·cbv
  ((repeat'(first|exact trivial|exact rfl|refine And.intro ?_ ?_|((first|refine aa hg cF ?_|refine goX hg _ z0 hy rfl ?_);cbv))))
  all_goals exact hu () trivial _ _ (Wk.weak (wkM [some 0,none,none,some 3,some 4,some 5,some 6,some 7,some 8] ⟨rfl,rfl,rfl,rfl,rfl,rfl,rfl,rfl,rfl,rfl,zpt⟩ ⟨.inr (wqB rfl ⟨zr5,zpt⟩),.inl rfl,.inl rfl,.inr (wqE rfl rfl),.inr (wqE rfl pM),.inr (wqE rfl pA),.inr (wqE rfl pE),.inr (wqE rfl rfl),.inr (wqE rfl rfl),zpt⟩ (by decide) ⟨.inl rfl,.inl rfl,.inr rfl,zpt⟩ ⟨.inl rfl,.inl rfl,.inr ⟨_,rfl⟩,zpt⟩))
 cases hApt:ys.apart
 case' true=>
  rw [hApt,if_pos rfl]at hr hb
  rw [<-hr,<-hb,<-hE,<-hw]at hA
 case' false=>
  rw [hApt,if_neg (by simp)]at hr hb
  subst hb
  cases hr
  rw [<-i1]at hE
  rw [<-i2]at hw
  subst hE hw
 all_goals
  cbv
  (split<;>rename_i hq<;>first|exact absurd (hq.symm.trans hApt) (by decide)|cbv)
  ((repeat'((first|refine goX hg _ z0 hy rfl ?_|refine gl rfl hg 0 4 5 hA rfl rfl rfl (by decide) rfl pM pA zr5 rfl ?_|refine dg hg rfl (by decide) xH ?_;cbv;rw [fI hg,<-h4]);cbv)))
  refine bP hg hX bq [1,2,3,4,5,6,7,8,9] (.op 0 [] (.op 10 [] (.op 11 [] (.op 12 [] .done .none) .none) .none) (.op 10 [] (.op 0 [] (.op 11 [] (.op 12 [] .done .none) .none) .none) .none)) (by kernel_rfl) (by kernel_rfl) (S:=Unit) (fun _=>True) (fun _=>[(0,.p 0),(1,.i (n)),(2,.i (w)),(3,.i (h)),(9,.o 6),(10,.p 3),(11,.v K),(12,.i (z))]) (fun _=>[.bx 91 5 [.view V,.B rtl,.B keeps,.own 4,.own 5],.gn,.gn,.bx 127 4 [.J bw,.J bh,.J bb,.view FR],.rw ⟨157,10,M5⟩,.rw ⟨172,6,A5⟩,.rw ⟨45,5,E2⟩]) (fun BL hu=> ?_) (fun _ _=> ?_)
  ·cbv
   ((repeat'(first|exact trivial|exact rfl|refine And.intro ?_ ?_|((first|refine goX hg _ z0 hy rfl ?_|refine gl rfl hg 0 9 10 cU rfl rfl rfl (by decide) rfl xG xF zr4 rfl ?_|refine gl rfl hg 0 4 5 cU rfl rfl rfl (by decide) rfl xG xF zr4 rfl ?_|refine Iy hg kQ (by decide) h6 hs ?_;cbv;rw [fI hg,<-h5]);cbv))))
   all_goals first
    |exact hu () trivial _ _ (Wk.weak (wkM [some 0,none,none,some 3,some 13,some 14,some 15] zr8 ⟨.inr (wqB rfl ⟨zr5,zpt⟩),.inl rfl,.inl rfl,.inr (wqE rfl rfl),.inr (wqE rfl hT),.inr (wqE rfl hO),.inr (wqE rfl hS),zpt⟩ (by decide) ⟨.inl rfl,.inl rfl,.inr rfl,zpt⟩ ⟨.inl rfl,.inl rfl,.inr ⟨_,rfl⟩,zpt⟩))
    |exact hu () trivial _ _ (Wk.weak (wkM [some 0,none,none,some 3,some 11,some 12,some 13] zr8 ⟨.inr (wqB rfl ⟨zr5,zpt⟩),.inl rfl,.inl rfl,.inr (wqE rfl rfl),.inr (wqE rfl hT),.inr (wqE rfl hO),.inr (wqE rfl hS),zpt⟩ (by decide) ⟨.inl rfl,.inl rfl,.inr rfl,zpt⟩ ⟨.inl rfl,.inl rfl,.inr ⟨_,rfl⟩,zpt⟩))
  cbv
  ((repeat'(rw [e1];cbv)))
  skip
  exact hB (((hv++_::uu,ho),M5,A5,E2)) _ _ ⟨h3,⟨hG,hC,aE,j1,j2⟩⟩ (Wk.weak (wkM [some 0,none,none,some 3,some 4,some 5,some 6] zr8 ⟨.inr (wqB rfl ⟨zr5,zpt⟩),.inl rfl,.inl rfl,.inr (wqE rfl rfl),.inr (wqE rfl hT),.inr (wqE rfl hO),.inr (wqE rfl hS),zpt⟩ (by decide) ⟨.inl rfl,.inl rfl,.inr rfl,zpt⟩ ⟨.inl rfl,.inl rfl,.inr ⟨_,rfl⟩,zpt⟩))
end
end Go.Proofs.YtckchgoblpgpbaaGreat
