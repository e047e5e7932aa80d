/- A part. -/
import Derived.Test.YtckchgoblpgpbaaGreatJ8ay
set_option linter.all false
set_option maxHeartbeats 80000000
namespace Go.Proofs.YtckchgoblpgpbaaGreat
open Go.ChangeShapes Go.WideShapes Go.ChangeAt Go.RowKit Am Go.Proofs.Tryz
set_option maxRecDepth 100000
theorem za(sp:Int->Int)(gap:Int):∀(cs:List Int)(i a:Int),(plG sp gap i a cs).length=cs.length
 | [],_,_=>rfl
 |c::r,i,a=>by simp only [plG,zqx,za sp gap r]
theorem Hx(cs:List Int)(gap inner ct:Int):(pll cs gap inner ct).length<=cs.length:=by
 unfold pll
 split
 ·exact zpn _
 ·rw [za];exact zpk _
section
variable {ns:List ae}{n:Int}
theorem Gp{x:ae}(h:ns[(n-1).toNat]? =some x):nod ns n=x:=by
 unfold nod;rw [h];rfl
theorem Bm{x:ae}(h:ns[(n-1).toNat]? =some x):flK ns n=ix (i9 ns) (x.kids.filter (m6 ns)):=by
 unfold flK kt;rw [h]
theorem Bs{ns:List ae}:∀(f:Nat)(k n:Int),0<=k->0<vk ns f (k+1) n->vk ns (f+1) k n=vk ns f (k+1) n-1
 |0,k,n,h0,h=>by
  by_cases hn:n=0
  ·subst hn;rw [mX,mX];omega
  ·rw [zI ns hn]at h;omega
 |f+1,k,n,h0,h=>by
  by_cases hn:n=0
  ·subst hn;rw [mX,mX];omega
  ·by_cases hi:isN ns n=true
   ·rw [kN ns hn hi]at h
    rw [kN ns hn hi,kN ns hn hi]
    exact Bs f (k+1) (upN ns n) (by omega) h
   ·rw [w8 ns (f+1) (k+1) n hn (by simpa using hi)]at h;omega
theorem iu(h:dl ns=true)(hn:isN ns n=true):1<=qg ns n/\qg ns n<=4:=by
 obtain⟨n1,n2,x,hx⟩:=bd hn
 simp only [dl,zqs]at h
 have:=(kC ns ns 0).1 h.2 _ x hx
 simp only [fP,zqs,rng,zqp]at this
 have h2:=this.2.1
 rw [show(0:Int)+(((n-1).toNat:Nat):Int)+1=n by omega]at h2
 exact h2
theorem Hd(h:dl ns=true){x:ae}(h1:1<=n)(hx:ns[(n-1).toNat]? =some x):∀k∈x.kids,upN ns k=n:=fun k ha=>by
 simp only [dl,zqs]at h
 have:=(kC ns ns 0).1 h.2 _ x hx
 simp only [fP,zqs,zqf,jR,zqp]at this
 have:=(this.2.2.2.1 k ha).2
 omega
theorem nJ(h:dl ns=true){x:ae}(h1:1<=n)(hx:ns[(n-1).toNat]? =some x):∀k∈x.kids,qg ns k=qg ns n+1:=fun k ha=>by
 have hk:=fk h h1 hx k ha
 obtain⟨k1,k2,y,hy⟩:=bd hk
 have hu:=Hd h h1 hx k ha
 have hd:=iu h hk
 obtain⟨L,hL⟩:∃L,ns.length=L+1:=⟨ns.length-1,by omega⟩
 unfold qg at hd⊢
 rw [hL]at hd⊢
 rw [kN ns (by omega) hk,hu]at hd⊢
 have:=Bs (ns:=ns) L 0 n (zpc 0) (by omega)
 rw [this];omega
theorem wV{x:ae}(hx:ns[(n-1).toNat]? =some x):∀k∈flK ns n,k∈x.kids:=fun k hk=>by
 rw [Bm hx,xG]at hk
 exact(List.mem_filter.1 hk).1
theorem nx.swap{lo:Nat}{as_ bs:List Nat}(h:nx lo (as_++bs)):nx lo (bs++as_):=by
 obtain⟨h1,h2,h3⟩:=List.nodup_append.1 h.1
 exact⟨List.nodup_append.2 ⟨h2,h1,fun a ha b hb he=>h3 b hb a ha he.symm⟩,fun b hb=>h.2 b (by rcases List.mem_append.1 hb with h|h;exact zpo _ h;exact zpx _ h)⟩
def frF(n:Int):List ag->ag×Bool
 | []=>(⟨0,0,0,0,0⟩,false)
 |f::fs=>if f.node=n then(f,true)else frF n fs
def atF(s:ah)(a b:Int)(rtl:Bool)(base mb all size e0 e1 f0 f1:Int)(turned:Bool):Int:=
 if yG s a rtl base then wrap64 (wrap64 (e0+yF s a rtl base)+jv s.margin a rtl mb)
 else if yG s b rtl base then wrap64 (wrap64 (wrap64 (wrap64 (all-e1)-yF s b rtl base)-jv s.margin b rtl mb)-size)
 else if turned then wrap64 (wrap64 (wrap64 (all-f1)-jv s.margin b rtl mb)-size)
 else wrap64 (f0+jv s.margin a rtl mb)
def apF (p s : ah) (rtl : Bool) (wide high kid : Int) (b : jH) : ag :=
  ⟨kid, atF s 0 2 rtl (wg p wide) (wg p wide) wide (mG s true (wg p wide) b.wide) p.border.left p.border.right (mz p).left (mz p).right rtl,
   atF s 1 3 rtl (xS p high) (wg p wide) high (mG s false (xS p high) b.high) p.border.top p.border.bottom (mz p).top (mz p).bottom false,
   mG s true (wg p wide) b.wide, mG s false (xS p high) b.high⟩
def apG(b:Bv)(ns:List ae)(rtl:Bool)(n kid w h:Int):ag:=apF (kst ns n) (kst ns kid) rtl w h kid (b kid (apX (kst ns kid) rtl (wg (kst ns n) w) (xS (kst ns n) h)) (apY (kst ns kid) rtl (wg (kst ns n) w) (xS (kst ns n) h)))
def zW(ns:List ae):Nat->Int->List Int
 |0,n=>[n]
 |k+1,n=>n::(kt ns n).flatMap (zW ns k)
def wS(xs:List Int):List ag:=xs.map fun k=>⟨k,0,0,0,0⟩
def Em(b:Bv)(ns:List ae)(rtl:Bool)(n w h:Int)(fr:List ag)(kid:Int):ag:=if(kst ns kid).apart then apG b ns rtl n kid w h else(frF kid fr).1
def Gb(b:Bv)(ns:List ae)(rtl:Bool)(n w h:Int)(fr:List ag)(R:Int->List Int)(U:Int->Int->Int->List ag)(kid:Int):List ag:=
 if(kst ns kid).hidden then wS (R kid)else Em b ns rtl n w h fr kid::U kid (Em b ns rtl n w h fr kid).wide (Em b ns rtl n w h fr kid).high
def Eg(b:Bv)(ns:List ae)(rtl:Bool):Nat->Int->Int->Int->List ag
 |0,_,_,_=>[]
 |k+1,n,w,h=>(kt ns n).flatMap (Gb b ns rtl n w h (b n ⟨3,w⟩ ⟨3,h⟩).frames (zW ns k) (Eg b ns rtl k))
def uN:Nat->Nat
 |0=>0
 |k+1=>12*(uN k+1)
theorem yl{α β:Type}(f:α->List β)(c:Nat):∀xs:List α,(∀x∈xs,(f x).length<=c)->(xs.flatMap f).length<=xs.length*c
 | [],_=>zpn _
 |x::xs,h=>by
  have h1:=h x (zpd ..)
  have h2:=yl f c xs fun y hy=>h y (zpe _ hy)
  rw [List.flatMap_cons,zqe,zqx,Nat.succ_mul]
  omega
theorem kr{x:ae}(hx:ns[(n-1).toNat]? =some x):kt ns n=x.kids:=by simp only [kt,hx]
theorem sD(ht:dl ns=true)(n:Int):(kt ns n).length<=12:=by
 cases hx:ns[(n-1).toNat]? with
 |none=>simp only [kt,hx];exact zpn _
 |some x=>
  rw [kr hx]
  exact lB (n:=((n-1).toNat:Int)+1) ht (by omega) (by rw [show(((n-1).toNat:Int)+1-1).toNat=(n-1).toNat by omega];exact hx)
theorem Jz{α:Type}(ht:dl ns=true)(n:Int)(f:Int->List α)(c:Nat)(h:∀k,(f k).length<=c):((kt ns n).flatMap f).length<=12*c:=
 zpb (yl f c _ fun k _=>h k) (zpf c (sD ht n))
theorem mH{ns:List ae}(ht:dl ns=true):∀(f:Nat)(n:Int),(zW ns f n).length<=uN f+1
 |0,_=>zpk _
 |f+1,n=>by
  have:=Jz ht n (zW ns f) (uN f+1) (mH ht f)
  show(n::(kt ns n).flatMap (zW ns f)).length<=12*(uN f+1)+1
  rw [zqx]
  omega
theorem vy{ns:List ae}(ht:dl ns=true)(b:Bv)(rtl:Bool):∀(f:Nat)(n w h:Int),(Eg b ns rtl f n w h).length<=uN f
 |0,_,_,_=>zpk _
 |f+1,n,w,h=>by
  refine Jz ht n _ (uN f+1) fun k=> ?_
  unfold Gb
  split
  ·unfold wS;rw [zql];exact mH ht f k
  ·rw [zqx];have:=vy ht b rtl f k (Em b ns rtl n w h (b n ⟨3,w⟩ ⟨3,h⟩).frames k).wide (Em b ns rtl n w h (b n ⟨3,w⟩ ⟨3,h⟩).frames k).high;omega
theorem oy(ht:dl ns=true){x:ae}(h1:isN ns n=true)(hx:ns[(n-1).toNat]? =some x)(hd:4<=qg ns n):x.kids=[]:=by
 have n1:=(bd h1).1
 cases e:x.kids with
 |nil=>rfl
 |cons k r=>
  have hk:k∈x.kids:=by rw [e];exact zpd ..
  have:=nJ ht n1 hx k hk
  have:=iu ht (fk ht n1 hx k hk)
  omega
theorem Ic(hf:(flK ns n).length<=12)(rtl:Bool)(f:Nat)(w h:aK):(vn ns rtl (f+1) n w h).frames.length<=12:=by
 show(HE (vn ns rtl f) ns rtl n w h).frames.length<=12
 unfold HE
 split
 ·exact zpn _
 ·split
  ·exact zpn _
  ·obtain⟨p,hp⟩:=nmE (plO ns n w h)
   have hb:p.kids=flK ns n:=by rw [hp];rfl
   rw [<-hp]
   obtain⟨I,hI⟩:=nmE (Ej (vn ns rtl f) p rtl ns p.kids)
   have ha:I.length<=12:=by rw [hI,Bc,hb];exact hf
   unfold JB
   rw [<-hI]
   show(yh _ _ _ _ _ _ _ _ _ _).length<=12
   have hl:(m5 p I).length<=12:=zpb (mf ..) ha
   rw [re,fj (rh _ _ _ (by omega))]
   unfold m5
   rw [km,bX]
   exact ha
theorem xe(ht:dl ns=true)(n:Int)(rtl:Bool)(f:Nat)(w h:aK):(vn ns rtl (f+1) n w h).frames.length<=12:=
 Ic (by unfold flK;rw [l6];exact zpb (List.length_filter_le _ _) (sD ht n)) rtl f w h
theorem zY{α:Type}{c:α->Array Value}(xs ys:List α):vw c (xs++ys)=vw c xs++vw c ys:=by simp [vw]
variable {P:Program}{n0 N:Nat}{g:Gd}
theorem Iy{β:BP}(hg:g=G0 P n0 N){t k by_:Nat}{es ys:LLA}{q:Prop}(hk:∀y∈ys,y.length=k)(hb:by_<=65536)(hl:es.length<=1073741824)(hl2:ys.length<=1073741824)(hq:q):
  g .N ((∀x,x∈ys->x.length=k)/\((AB.mk t k es).es.length+ys.length)*by_<=140737488355328/\(AB.mk t k es).es.length+ys.length<=4611686018427387904) q:=
 goN hg ⟨hk,zpb (Nat.mul_le_mul (show es.length+ys.length<=2147483648 by omega) hb) (by decide),by show es.length+ys.length<=_;omega⟩ hq
end
section
variable {ns:List ae}{n:Int}
def uOk(ns:List ae)(n w h:Int):Bool:=dl ns&&(isN ns n&&(rng w 0 1048576&&rng h 0 1048576))
def fuO(ns:List ae)(n w h:Int)(rtl:Bool):List ag:=if uOk ns n w h=false then []else Eg (vn ns rtl 4) ns rtl 3 n w h
theorem uN3:uN 3=1884:=rfl
theorem CF{f:Nat}(h:f<=3):uN f<=1884:=by
 rcases f with _|_|_|_|f<;>first|decide|omega
theorem HQ(ns:List ae)(n w h:Int)(rtl:Bool):(fuO ns n w h rtl).length<=1048576:=by
 unfold fuO
 split
 ·exact zpn _
 ·rename_i hO
  simp only [Bool.not_eq_false,uOk,zqs]at hO
  have:=vy hO.1 (vn ns rtl 4) rtl 3 n w h
  have:=uN3
  omega
def sR(V:LLA)(rtl keeps:Bool):S3K:=⟨91,5,[.view V,.B rtl,.B keeps],157,10,172,6⟩
def SM(ms:List pI):LLA:=vwA pI.ac ms
def SA(qs:List lu):LLA:=vw lu.c qs
theorem bD(ms:List pI):ay (SM ms)=true:=lA (c:=pI.ac) (fun x=>by obtain⟨a,⟨b,c⟩,⟨d,e⟩,f,⟨i,j,k,l⟩⟩:=x;rfl) ms
theorem Km(ms:List pI):∀y∈SM ms,y.length=10:=BQ (c:=pI.ac) (fun x=>by obtain⟨a,⟨b,c⟩,⟨d,e⟩,f,⟨i,j,k,l⟩⟩:=x;rfl)
theorem BK(ms:List pI):∀y∈SM ms,y.all dat=true:=o3 (c:=pI.ac) (fun x=>by obtain⟨a,⟨b,c⟩,⟨d,e⟩,f,⟨i,j,k,l⟩⟩:=x;rfl)
theorem bG(qs:List lu):ay (SA qs)=true:=aD _ _
theorem BM(qs:List lu):∀y∈SA qs,y.all dat=true:=jc
theorem Kn(qs:List lu):∀y∈SA qs,y.length=6:=xj (c:=lu.c) fun _=>rfl
def yD(V:LLA)(rtl keeps:Bool)(bx:Bx)(c L:Nat)(kid:Int):Prop:=(∀w h st,(bx kid w h st).2.1.length<=st.1.length+c/\(bx kid w h st).2.2.length<=st.2.length+c)/\
 ∀(w0 w1 h0 h1:Int)(st:St),st.1.length+c<=L->st.2.length+c<=L->
  SE prog 76 (sR V rtl keeps) (SM st.1) (SA st.2) [.c (.ptr 0 0 0),ai kid,agP ⟨w0,w1⟩,agP ⟨h0,h1⟩] (.t (.agg (jH.ac (bx kid ⟨w0,w1⟩ ⟨h0,h1⟩ st).1))) (SM (bx kid ⟨w0,w1⟩ ⟨h0,h1⟩ st).2.1) (SA (bx kid ⟨w0,w1⟩ ⟨h0,h1⟩ st).2.2)
theorem acE(q:jH):jH.ac q=[.J q.wide,.J q.high,.J q.base,.view (vw ag.c q.frames)]:=rfl
variable {rtl keeps:Bool}
theorem zS{V:LLA}{bx:Bx}{c L:Nat}{kid:Int}(hb:yD V rtl keeps bx c L kid)(row:Bool)(al ac:aK)(st:St):(vr bx row kid al ac st).2.1.length<=st.1.length+c/\(vr bx row kid al ac st).2.2.length<=st.2.length+c:=by
 unfold vr
 split<;>exact hb.1 ..
theorem nQ(V:LLA)(rtl keeps:Bool)(bx:Bx)(c L:Nat)(kid:Int)(hb:yD V rtl keeps bx c L kid)(n:Int)(s:ah)(row:Bool)(al ac:aK)(kn:Int)(K:LLA)(a0 a1 c0 c1:Int)(st:St)(hm:st.1.length+c<=L)(hq:st.2.length+c<=L):
  SE prog 263 (sR V rtl keeps) (SM st.1) (SA st.2) [.c (.ptr 0 0 0),.agg (nwL n s row al ac kn (.view K)),ai kid,agP ⟨a0,a1⟩,agP ⟨c0,c1⟩] (.t (.agg (jH.ac (vr bx row kid ⟨a0,a1⟩ ⟨c0,c1⟩ st).1))) (SM (vr bx row kid ⟨a0,a1⟩ ⟨c0,c1⟩ st).2.1) (SA (vr bx row kid ⟨a0,a1⟩ ⟨c0,c1⟩ st).2.2):=by
 have ha:=hb.2 a0 a1 c0 c1 st hm hq
 have hc:=hb.2 c0 c1 a0 a1 st hm hq
 unfold vr
 have pM:=bD st.1
 have pA:=bG st.2
 obtain⟨r1,hr1⟩:=nmE (bx kid ⟨a0,a1⟩ ⟨c0,c1⟩ st)
 obtain⟨r2,hn⟩:=nmE (bx kid ⟨c0,c1⟩ ⟨a0,a1⟩ st)
 rw [<-hr1]at ha
 rw [<-hn]at hc
 rw [<-hr1,<-hn]
 rw [acE]at ha hc
 clear hr1 hn hb
 cases row
 ·simp only [Bool.false_eq_true,if_false]
  rw [acE]
  have hf:=bD r2.2.1
  have he:=bG r2.2.2
  generalize hj:vw ag.c r2.1.frames=F2 at hc;replace hj:=hj.symm
  generalize hM:SM st.1=M at hc pM;replace hM:=hM.symm
  generalize hh:SA st.2=A0 at hc pA;replace hh:=hh.symm
  generalize hk:SM r2.2.1=M2 at hc hf;replace hk:=hk.symm
  generalize hi:SA r2.2.2=A2 at hc he;replace hi:=hi.symm
  refine mC [] func263 (fun g ho hd F hl hp hg hF=> ?_)
  cbv
  (refine gl rfl hg 0 1 2 hc rfl rfl rfl (by decide) rfl pM pA ⟨rfl,rfl,.inl ⟨rfl,rfl⟩,.inl ⟨rfl,rfl⟩,zpt⟩ rfl ?_;cbv)
  exact sK 7 8 hF rfl rfl rfl rfl rfl (by decide) rfl hf he
 ·simp only [if_true]
  rw [acE]
  have hf:=bD r1.2.1
  have he:=bG r1.2.2
  generalize hj:vw ag.c r1.1.frames=F2 at ha
  generalize hM:SM st.1=M at ha pM
  generalize hh:SA st.2=A0 at ha pA
  generalize hk:SM r1.2.1=M2 at ha hf
  generalize hi:SA r1.2.2=A2 at ha he
  refine mC [] func263 (fun g ho hd F hl hp hg hF=> ?_)
  cbv
  (refine gl rfl hg 0 1 2 ha rfl rfl rfl (by decide) rfl pM pA ⟨rfl,rfl,.inl ⟨rfl,rfl⟩,.inl ⟨rfl,rfl⟩,zpt⟩ rfl ?_;cbv)
  exact sK 7 8 hF rfl rfl rfl rfl rfl (by decide) rfl hf he
theorem D4{V:LLA}{bx:Bx}{c L:Nat}{kid:Int}(hb:yD V rtl keeps bx c L kid)(p:Pl)(ns:List ae)(st:St):(yz bx p rtl ns kid st).2.1.length<=st.1.length+c/\(yz bx p rtl ns kid st).2.2.length<=st.2.length+c:=by
 unfold yz
 split
 ·exact⟨Nat.le_add_right ..,Nat.le_add_right ..⟩
 ·exact zS hb ..
theorem v7{a b c k L:Nat}(h:a<=b+k*c)(hL:b+20*c<=L)(hk:k+1<=20):a+c<=L:=by
 have:=zpf c hk
 rw [Nat.succ_mul]at this
 omega
theorem oe{a a' b c k:Nat}(h:a<=b+k*c)(h2:a'<=a+c):a'<=b+(k+1)*c:=by
 rw [Nat.succ_mul];omega
def ER(k:ah)(w:Bool)(base size:Int):Int:=if qL k w base= -1 then rQ k w size else-1
theorem lI(ns:List ae)(hl:ns.length<=1048576)(kid:Int)(y:ae)(h1:isN ns kid=true)(hy:ns[(kid-1).toNat]? =some y)(rtl kp:Bool)(C D:AC)(n:Int)(s:ah)(row:Bool)(al ac:aK)(kn:Int)(K:LLA)(size:Int):PC0 262 [.c (.eptr [.view (vwA ae.ac ns),.B rtl,.B kp,C,D] 0),.agg (nwL n s row al ac kn (.view K)),ai kid,ai size] (.i (ER y.style (!row) (knS ac) size)):=by
 obtain⟨V,hV⟩:=nmE (vwA ae.ac ns)
 obtain⟨Ky,ha⟩:=nmE (vw ak y.kids)
 obtain⟨Ry,hb⟩:=nmE (vw aC.c y.table.rules)
 have b2:=bd h1
 have cy:=bg ns kid y b2.1 (by have:=b2.2.1;omega) hy V Ky Ry hV ha hb
 have ck:=du ac.mode ac.n
 change PC0 _ _ (.i (knS ac))at ck
 have cf:=eN y.style (!row) (knS ac)
 have cr:=jr y.style (!row) size
 rw [<-hV]
 unfold ER
 obtain⟨am,an⟩:=ac
 generalize hKN:knS ⟨am,an⟩=KN at ck cf
 generalize hFX:qL y.style (!row) KN=FX at cf
 generalize hRT:rQ y.style (!row) size=RT at cr
 clear hKN hFX hRT hV ha hb
 by_cases q1:FX= -1
 all_goals
  first|rw [if_pos q1]|rw [if_neg q1]
  refine aV func262 fun g F hg hF=> ?_
  have t0:g .q .neq (FX) ((-1))=decide (¬(FX)=((-1))):=by rw [bC hg];exact dQ _ _
  (first|rw [zqu q1]at t0|rw [zqt q1]at t0|rw [zqu (Classical.not_not.2 q1)]at t0|rw [zqt (Classical.not_not.2 q1)]at t0)
  cbv
  ((repeat'((first|rw [t0]|refine ad hg cy ?_|refine aa hg ck ?_|refine aa hg cf ?_|refine ad hg cr ?_);cbv)))
  exact aO hF rfl
theorem H3{p:Pl}{S:List aw}{Z:List Int}{c i kd z:Int}{y:ae}{sd:aw}(h0:0<=i)(hS:S[i.toNat]? =some sd)(hK:p.kids[i.toNat]? =some kd)(hZ:Z[i.toNat]? =some z)(hy:ns[(kd-1).toNat]? =some y):
  zG p ns S Z c i=if Bq sd=true/\qL y.style (!p.row) (knS p.ac)= -1/\ER y.style (!p.row) (knS p.ac) z= -1 then DL sd (mG y.style (!p.row) (knS p.ac) (wrap64 (c-wrap64 (sd.before+sd.behind))))else sd:=by
 rw [DM h0 hS hK hZ hy]
 unfold ER
 by_cases q:qL y.style (!p.row) (knS p.ac)= -1<;>simp [q]
end
section
variable {xs:List af}
variable {l:List Int}{k:Int}{LL:List (List Int)}
theorem zr{V:LLA}{rtl keeps:Bool}{bx:Bx}{c L:Nat}(p:Pl)(ns:List ae):∀(ks:List Int)(st:St),(∀k∈ks,yD V rtl keeps bx c L k)->(mV bx p rtl ns ks st).1.length=ks.length/\(mV bx p rtl ns ks st).2.1.length<=st.1.length+ks.length*c/\(mV bx p rtl ns ks st).2.2.length<=st.2.length+ks.length*c
 | [],st,_=>by simp [mV]
 |k::r,st,h=>by
  have h1:=D4 (h k (zpd ..)) p ns st
  have h2:=zr p ns r (yz bx p rtl ns k st).2 (fun x hx=>h x (zpe _ hx))
  have e:(k::r).length*c=r.length*c+c:=by rw [zqx,Nat.succ_mul]
  rw [e]
  simp only [mV,zqx]
  refine⟨by rw [h2.1],?_,?_⟩
  ·exact zpb h2.2.1 (zpb (Nat.add_le_add_right h1.1 _) (Nat.le_of_eq (by rw [Nat.add_assoc,Nat.add_comm c])))
  ·exact zpb h2.2.2 (zpb (Nat.add_le_add_right h1.2 _) (Nat.le_of_eq (by rw [Nat.add_assoc,Nat.add_comm c])))
theorem yV{V:LLA}{rtl keeps:Bool}{bx:Bx}{c L:Nat}(p:Pl)(ns:List ae):∀(ks:List (Int×Int))(st:St),(∀k∈ks,yD V rtl keeps bx c L k.1)->(vU bx p rtl ns ks st).1.length=ks.length/\(vU bx p rtl ns ks st).2.1.length<=st.1.length+ks.length*c/\(vU bx p rtl ns ks st).2.2.length<=st.2.length+ks.length*c
 | [],st,_=>by simp [vU]
 |(k,z)::r,st,h=>by
  have h1:=zS (h (k,z) (zpd ..)) p.row ⟨3,z⟩ (Cw p (kst ns k) rtl z) st
  have h2:=yV p ns r (vr bx p.row k ⟨3,z⟩ (Cw p (kst ns k) rtl z) st).2 (fun x hx=>h x (zpe _ hx))
  have e:((k,z)::r).length*c=r.length*c+c:=by rw [zqx,Nat.succ_mul]
  rw [e]
  simp only [vU,zqx]
  refine⟨by rw [h2.1],?_,?_⟩
  ·exact zpb h2.2.1 (zpb (Nat.add_le_add_right h1.1 _) (Nat.le_of_eq (by rw [Nat.add_assoc,Nat.add_comm c])))
  ·exact zpb h2.2.2 (zpb (Nat.add_le_add_right h1.2 _) (Nat.le_of_eq (by rw [Nat.add_assoc,Nat.add_comm c])))
variable {cs:List Int}{gap inner ct:Int}
theorem Ip(qs:List lu)(x:lu):SA (qs++[x])=SA qs++[lc (lu.c x)]:=bk _ _ _
theorem xu{α:Type}(c:α->Array Value):vw c ([]:List α)=[]:=rfl
end
end Go.Proofs.YtckchgoblpgpbaaGreat
