/- The size of a root: both programs. -/
import Derived.Test.YtckchgoblpgpbaaGreatJ6bi
set_option linter.unusedVariables false
set_option linter.unusedSimpArgs false
set_option maxHeartbeats 16000000
namespace Go.Proofs.YtckchgoblpgpbaaGreat
open Go.ChangeShapes Go.WideShapes Go.ChangeAt Go.RowKit Am Go.Proofs.Tryz
set_option maxRecDepth 100000
variable {α:Type}
theorem xt(c:α->Array Value)(xs:List α)(x:α):vw c (xs++[x])=vw c xs++[lc (c x)]:=by simp [vw]
section
variable {n0 N:Nat}{g:Gd}
theorem Bi(hg:g=G0 prog n0 N){H:EH}{f:FuncId}{tc:Nat}{V:LLA}{K:AV->EH->Prop}(hc:cj prog f [.c (.view V)] fun res ha=>∃hv:Int,res= .p 0/\ha=[⟨tc,3,[Cur V 0 hv]⟩])
  (hK:∀hv:Int,K (.t (.c (.ptr (jH H) 0 0))) (H++[.bx tc 3 (Cur V 0 hv)])):g .C f H [.c (.view V)] K:=
 qw hg (eD hc rfl fun res ha⟨hv,h1,h2⟩=>by
  subst h1 h2
  refine⟨[.bx tc 3 (Cur V 0 hv)],rfl,?_⟩
  have:=hK hv
  rw [bR]at this
  simpa [AV.shift,AT.shift,AC.shift,aQ]using this)
end
theorem kN(bs:List Int)(hl:bs.length<=1048576):cj prog 9 [.c (.view (vw qy bs))] fun res ha=>∃(xs:List Int),xs.length=12/\(∀x∈xs,0<=x/\x<10000)/\res= .o 0/\ha=[⟨3,1,vw ak xs⟩]:=by
 have cn:=pp bs hl
 have cb:=fun(i h n:Int)(hi:0<=i)=>mr bs hl i h n hi
 obtain⟨V,hV⟩:=nmE (vw qy bs)
 simp only [<-hV]at cn cb⊢
 refine ae (aM Tryz.f9) aB Tryz.func9 fun g F hg hF=> ?_
 cbv
 refine Bi hg cn fun hv=> ?_
 cbv
 refine iv hg aB (by kernel_rfl) (fun s:(Int×List Int×LLA)×Int×Int=>[(3,.p 0),(4,.o 1),(5,.i (s.1.1))]) (fun s=>[.bx 100 3 (Cur V s.2.1 s.2.2),.rw ⟨3,1,s.1.2.2⟩]) (fun s=>0<=s.1.1/\s.1.1<=12/\(s.1.2.1.length:Int)=s.1.1/\s.1.2.2=vw ak s.1.2.1/\0<=s.2.1/\∀x∈s.1.2.1,0<=x/\x<10000) (fun s=>12-s.1.1.toNat)
  ((0,[],[]),0,hv) ⟨by simp,by simp,by simp,rfl,by simp,by simp⟩ (Wk.weak (wkG [some 0,some 1] zr3 ⟨wqE rfl rfl,wqE rfl rfl,trivial⟩ (by decide) aw)) (fun s B hs hB=> ?_)
 obtain⟨⟨z,xs,eX⟩,i,h⟩:=s
 obtain⟨h0,h1,h2,h3,h4,h5⟩:=hs
 dsimp only at h0 h1 h2 h3 h4 h5
 have hb:eX.length<=1048576:=by rw [h3,ao];omega
 have pX:=pmV h3
 have ez:g .w .add .i64 z 1=z+1:=by rw [aJ hg];exact wr1 (by omega) (by omega)
 have hd:∀f,((xs++[f]).length:Int)=z+1:=fun f=>by simp;omega
 have hj:¬z<12->xs.length=12:=fun h=>by omega
 have tz:g .q .lss z 12=decide (z<12):=bF hg _ _
 cbv
 rw [tz]
 by_cases hzx:z<12
 ·rw [zqu hzx]
  cbv
  refine o6 hg 0 (cb _ _ _ h4) rfl rfl fun i2 k2 res hc hq=> ?_
  obtain⟨x,rfl,he,hf,_⟩:=hq
  have hh:=hf (by decide)
  have aX:eX++[[.J x]]=vw ak (xs++[x]):=by rw [xt,h3];rfl
  cbv
  refine fR hg rfl (by decide) hb ?_
  cbv
  rw [ez,ig hg]
  subst hB
  exact⟨((z+1,xs++[x],_),i2,k2),⟨by simp only;omega,by simp only;omega,hd _,aX,hc,fun y hy=>by
   rcases List.mem_append.1 hy with hy|hy
   ·exact h5 y hy
   ·rw [List.mem_singleton.1 hy];exact⟨he,hh⟩⟩,by simp only;omega,Wk.weak (wkG [some 0,some 3] zr3 ⟨wqE rfl rfl,⟨_,_,rfl,rfl,rfl,rfl,.inl ⟨rfl,aX.symm▸aF _ _⟩⟩,trivial⟩ (by decide) aw)⟩
 ·rw [zqt hzx]
  cbv
  exact Ed ⟨3,1,eX⟩ hF rfl pX ⟨xs,hj hzx,h5,rfl,by rw [h3]⟩
variable {P:Program}
theorem uF{H:Type}{enc:TypeId×Value->H}{w:World}{r:Reach}{b0:Nat}{nr:Bool}{T te:TypeId}{v:Value}{d:DataW H}{p:List MemPlace}
  (hl:laidOutB P=true) (hu:P.underlying te=some (.int .u8)) (hlt:te<P.types.size) (ht:P.underlying T=some (.slice te))
  (hft:sv P 5 te=some [te]) (hC:P.cellsOf te=1) (h:DataW.Trod enc P w 0 (fun _=>true) nr T v d p) (hv:Value.okWide P w r b0 T v):
  ∃xs:List Int,BT 1 qy w v xs:=by
 obtain⟨a0,n0,c0,rfl⟩:=okWide_slice ht hv
 obtain⟨hk,hf⟩:=h
 rcases Go.Deep.open_slice ht hf with⟨hcs,_⟩|⟨a,len,cap,m,n,D,Pl,hcs,hba,hlc,hm,hmm,hx,hel⟩
 ·simp [Value.cells]at hcs
  obtain⟨rfl,rfl,rfl⟩:=hcs
  exact⟨[],none,0,rfl,by simp,by simp,by simp⟩
 ·simp [Value.cells]at hcs
  obtain⟨rfl,rfl,rfl⟩:=hcs
  have hz:∀i,i<n0->∃x:Int,a.spot=none/\w.cell? ⟨a.block,a.off+i,none⟩=some (.int .u8 x):=by
   intro i hj
   obtain⟨hA,hc,hw⟩:=hel i (by rw [hmm];simp;omega)
   rw [hC]at hc
   obtain⟨_,hE,hp⟩:=World.cells?_some hc
   have h1:=lC hl 5 te _ n _ _ hlt hft hw
   obtain⟨c,f',y,hq,hy⟩:=h1.2 0 te rfl
   obtain⟨k,h2,_,_⟩:=DataW.trod_int hu hy
   simp only [List.cons.injEq,and_true]at h2
   subst h2
   have ha:=hp 0 (by omega)
   rw [hq]at ha
   have hd:a.spot=none:=by
    obtain⟨hB,hb,hh⟩:=hel 0 (by rw [hmm];simp;omega)
    rw [hC]at hb
    obtain⟨_,hG,he⟩:=World.cells?_some hb
    have ho:=lC hl 5 te _ n _ _ hlt hft hh
    obtain⟨c',hD,y',hg,_⟩:=ho.2 0 te rfl
    have h4:=he 0 (by omega)
    rw [hg]at h4
    have h5:=qJ h4
    simpa [Addr.add]using h5
   refine⟨k,hd,?_⟩
   have:=yJ a hd (i*1) 0
   simp only [Nat.mul_one,Nat.add_zero]at this
   rw [<-this]
   simpa using ha
  obtain⟨f,hi⟩:∃f:Nat->Int,∀i,i<n0->a.spot=none/\w.cell? ⟨a.block,a.off+i,none⟩=some (.int .u8 (f i)):=Go.Deep.choose_lt hz
  refine⟨(List.range n0).map f,some a,c0,by simp,by simpa using hlc,hm,fun h0=> ?_⟩
  have hn:0<n0:=by simpa using h0
  obtain⟨hd,_⟩:=hi 0 hn
  refine⟨a.block,a.off,by obtain⟨b,o,s⟩:=a;simp only at hd;subst hd;rfl,fun i hj j hF=> ?_⟩
  have hr:i<n0:=by simpa using hj
  obtain⟨_,h3⟩:=hi i hr
  have hs:j=0:=by omega
  subst hs
  exact⟨.int .u8 (f i),by simp,by simpa using h3⟩
section
variable {P:Program}{n0 N:Nat}{g:Gd}
end
theorem uI(bs:List Int):PC0 8 [.c (.view (vw qy bs))] (.t (abl (decide (1048576<(bs.length:Int))))):=by
 obtain⟨V,hV⟩:=nmE (vw qy bs)
 obtain⟨q,hq⟩:=nmE (decide (1048576<(bs.length:Int)))
 have ha:aC V=(bs.length:Int):=by rw [hV,ar,ao]
 rw [<-hV,<-hq]
 rw [<-ha]at hq
 refine ae (aM Tryz.f8) aB Tryz.func8 fun g F hg hF=> ?_
 cbv
 exact aY hF (by rw [dD hg,bO hg,hq])
theorem wo{f:FuncId}{args:List AT}{T:LLA}{C:Int}(hc:Bs P f args fun lo res ha=>(∃b0,res= .tup [.agg [.fv b0 T],ai C]/\jT lo b0)/\fz res=true/\ha=[]):cj P f args fun res ha=>res= .tup [.agg [.view T],ai C]/\ha=[]:=by
 have h0:=hc 0
 refine⟨h0.1,fun F w m vs hH hl hx=>(h0.2 F w m vs hH hl hx).mono fun e w'⟨v,res,h',m',F',he,hp,hG,hs,hv⟩=> ?_⟩
 obtain⟨ha,hh,⟨b0,hr,-⟩,-,hw⟩:=hp
 subst hr hw
 refine⟨v,.tup [.agg [.view T],ai C],h',m',F',he,⟨[],hh,rfl,rfl⟩,hG,hs,?_⟩
 obtain⟨us,h1,h2,h3⟩:=hv
 refine⟨us,h1,h2,fun j x hj=> ?_⟩
 match j,hj with
 |0,hj=>
  obtain⟨u,hu,hb,g1,g2,g3⟩:=h3 0 _ rfl
  obtain rfl:AT.agg [.view T]=x:=by simpa using hj
  refine⟨u,hu,hb,g1,g2,fun i c hi=> ?_⟩
  match i,hi with
  |0,hi=>
   obtain⟨u',k1,k2,k3⟩:=g3 0 _ rfl
   obtain rfl:AC.view T=c:=by simpa using hi
   exact⟨u',k1,k2,SP.rp k3⟩
  |i+1,hi=>simp at hi
 |1,hj=>
  obtain⟨u,hu,hr⟩:=h3 1 _ rfl
  obtain rfl:ai C=x:=by simpa using hj
  exact⟨u,hu,hr⟩
 |j+2,hj=>simp at hj
theorem xS{f:FuncId}{xs:List AT}{Post:AV->List AB->Prop}(hc:cj P f (.agg [.view []]::xs) Post):cj P f (.agg [.N]::xs) Post:=
 ⟨hc.1,fun F w m vs hH hl hx=>hc.2 F w m vs hH (by simpa using hl) fun j x hj=>by
  match j,hj with
  |0,hj=>
   obtain⟨v,hv,us,g1,g2,g3⟩:=hx 0 _ rfl
   obtain rfl:AT.agg [.view []]=x:=by simpa using hj
   refine⟨v,hv,us,g1,g2,fun i c hi=> ?_⟩
   match i,hi with
   |0,hi=>
    obtain⟨u,k1,k2,k3⟩:=g3 0 _ rfl
    obtain rfl:AC.view []=c:=by simpa using hi
    exact⟨u,k1,k2,none,0,k3,Nat.le_refl _,Nat.zero_le _,.inl rfl⟩
   |i+1,hi=>simp at hi
  |j+1,hj=>exact hx (j+1) x hj⟩
theorem ju(ns:List af)(hl:ns.length<=1048576)(hs:∀y∈ns,af.small y)(s:ah):PC0 11 [.agg [.view (vwA af.ac ns)],.agg (lc (ah.c s))] (.tup [.agg [.view (vwA af.ac (uh ns s))],ai (ve ns s)]):=
 wo (nV ns hl hs s)
theorem lI(ns:List af)(hl:ns.length<=1048576)(hs:∀y∈ns,af.small y)(n kid p:Int):PC0 12 [.agg [.view (vwA af.ac ns)],ai n,ai kid,ai p] (.tup [.agg [.view (vwA af.ac (inN ns n kid p))],ai (inI ns n kid p)]):=
 wo (lJ ns hl hs n kid p)
theorem kL(bs:List Int)(hl:bs.length<=1048576):cj prog 9 [.c (.view (vw qy bs))] fun res ha=>(∃(xs:List Int),xs.length=12/\(∀x∈xs,0<=x/\x<10000)/\res= .t (.c (.view (vw ak xs))))/\ha=[]:=
 mM (kN bs hl) fun res ha⟨xs,h1,h2,e1,e2⟩=>by
  subst e1 e2
  exact⟨.t (.c (.view (vw ak xs))),[],bS (sl1 0 _) (kP rfl (sN (c:=ak) (k:=1) fun _=>rfl) ij) (Wk.weak (wkG [] zr1 trivial (by decide) aw)),⟨xs,h1,h2,rfl⟩,rfl⟩
theorem ms:PC0 32 [] (.t (.agg (lc (ah.c D5)))):=by
 refine ae (aM f32) aB func32 fun g F hg hF=> ?_
 cbv
 exact mh hF rfl ⟨rfl,rfl⟩
theorem ri:PC0 10 [] (.t (.agg (lc (ah.c zd)))):=by
 have c0:=ms
 refine ae (aM f10) aB func10 fun g F hg hF=> ?_
 cbv
 repeat'(refine ad hg c0 ?_;cbv)
 exact mh hF rfl ⟨rfl,rfl⟩
def atF(s:ah)(a b:Int)(rtl:Bool)(base mb all size e0 e1 f0 f1:Int)(turned:Bool):Int:=
 if vd s a rtl base then wrap64 (wrap64 (e0+vc s a rtl base)+ir s.margin a rtl mb)
 else if vd s b rtl base then wrap64 (wrap64 (wrap64 (wrap64 (all-e1)-vc s b rtl base)-ir s.margin b rtl mb)-size)
 else if turned then wrap64 (wrap64 (wrap64 (all-f1)-ir s.margin b rtl mb)-size)
 else wrap64 (f0+ir s.margin a rtl mb)
def apF (p s : ah) (rtl : Bool) (wide high kid : Int) (b : lw) : ag :=
  ⟨kid, atF s 0 2 rtl (wv p wide) (wv p wide) wide (kF s true (wv p wide) b.wide) p.border.left p.border.right (kz p).left (kz p).right rtl,
   atF s 1 3 rtl (xU p high) (wv p wide) high (kF s false (xU p high) b.high) p.border.top p.border.bottom (kz p).top (kz p).bottom false,
   kF s true (wv p wide) b.wide, kF s false (xU p high) b.high⟩
def apG(b:Bv)(ns:List af)(rtl:Bool)(n kid w h:Int):ag:=apF (kst ns n) (kst ns kid) rtl w h kid (b kid (apX (kst ns kid) rtl (wv (kst ns n) w) (xU (kst ns n) h)) (apY (kst ns kid) rtl (wv (kst ns n) w) (xU (kst ns n) h)))
def xl(ns:List af):Nat->Int->List Int
 |0,n=>[n]
 |k+1,n=>n::(fD ns n).flatMap (xl ns k)
def uL(xs:List Int):List ag:=xs.map fun k=>⟨k,0,0,0,0⟩
def zt(b:Bv)(ns:List af)(rtl:Bool)(n w h:Int)(fr:List ag)(kid:Int):ag:=if(kst ns kid).apart then apG b ns rtl n kid w h else(frF kid fr).1
def zZ(b:Bv)(ns:List af)(rtl:Bool)(n w h:Int)(fr:List ag)(R:Int->List Int)(U:Int->Int->Int->List ag)(kid:Int):List ag:=
 if(kst ns kid).hidden then uL (R kid)else zt b ns rtl n w h fr kid::U kid (zt b ns rtl n w h fr kid).wide (zt b ns rtl n w h fr kid).high
def zY(b:Bv)(ns:List af)(rtl:Bool):Nat->Int->Int->Int->List ag
 |0,_,_,_=>[]
 |k+1,n,w,h=>(fD ns n).flatMap (zZ b ns rtl n w h (b n ⟨3,w⟩ ⟨3,h⟩).frames (xl ns k) (zY b ns rtl k))
def uN:Nat->Nat
 |0=>0
 |k+1=>12*(uN k+1)
theorem tN{α β:Type}(f:α->List β)(c:Nat):∀xs:List α,(∀x∈xs,(f x).length<=c)->(xs.flatMap f).length<=xs.length*c
 | [],_=>Nat.zero_le _
 |x::xs,h=>by
  have h1:=h x (List.mem_cons_self ..)
  have h2:=tN f c xs fun y hy=>h y (List.mem_cons_of_mem _ hy)
  rw [List.flatMap_cons,zqe,zqx,Nat.succ_mul]
  omega
variable {ns:List af}{n:Int}
theorem qa{x:af}(hx:ns[(n-1).toNat]? =some x):fD ns n=x.kids:=by simp only [fD,hx]
theorem rj(ht:aV ns=true)(n:Int):(fD ns n).length<=12:=by
 cases hx:ns[(n-1).toNat]? with
 |none=>simp only [fD,hx];exact Nat.zero_le _
 |some x=>
  rw [qa hx]
  exact pi (n:=((n-1).toNat:Int)+1) ht (by omega) (by rw [show(((n-1).toNat:Int)+1-1).toNat=(n-1).toNat by omega];exact hx)
theorem CP(ht:aV ns=true)(n:Int)(f:Int->List α)(c:Nat)(h:∀k,(f k).length<=c):((fD ns n).flatMap f).length<=12*c:=
 Nat.le_trans (tN f c _ fun k _=>h k) (Nat.mul_le_mul_right c (rj ht n))
theorem lr{ns:List af}(ht:aV ns=true):∀(f:Nat)(n:Int),(xl ns f n).length<=uN f+1
 |0,_=>Nat.le_refl _
 |f+1,n=>by
  have:=CP ht n (xl ns f) (uN f+1) (lr ht f)
  show(n::(fD ns n).flatMap (xl ns f)).length<=12*(uN f+1)+1
  rw [zqx]
  omega
theorem ph{ns:List af}(ht:aV ns=true)(b:Bv)(rtl:Bool):∀(f:Nat)(n w h:Int),(zY b ns rtl f n w h).length<=uN f
 |0,_,_,_=>Nat.le_refl _
 |f+1,n,w,h=>by
  refine CP ht n _ (uN f+1) fun k=> ?_
  unfold zZ
  split
  ·unfold uL;rw [zql];exact lr ht f k
  ·rw [zqx];have:=ph ht b rtl f k (zt b ns rtl n w h (b n ⟨3,w⟩ ⟨3,h⟩).frames k).wide (zt b ns rtl n w h (b n ⟨3,w⟩ ⟨3,h⟩).frames k).high;omega
theorem rg(ht:aV ns=true){x:af}(h1:isN ns n=true)(hx:ns[(n-1).toNat]? =some x)(hd:4<=jn ns n):x.kids=[]:=by
 have n1:=(aI h1).1
 cases e:x.kids with
 |nil=>rfl
 |cons k r=>
  have hk:k∈x.kids:=by rw [e];exact List.mem_cons_self ..
  have:=qc ht n1 hx k hk
  have:=iU ht (fM ht n1 hx k hk)
  omega
theorem Bl(hf:(flK ns n).length<=12)(rtl:Bool)(f:Nat)(w h:aG):(nO ns rtl (f+1) n w h).frames.length<=12:=by
 show(Cu (nO ns rtl f) ns rtl n w h).frames.length<=12
 unfold Cu
 split
 ·exact Nat.zero_le _
 ·split
  ·exact Nat.zero_le _
  ·obtain⟨p,hp⟩:=nmE (plO ns n w h)
   have hb:p.kids=flK ns n:=by rw [hp];rfl
   rw [<-hp]
   obtain⟨I,hI⟩:=nmE (zi (nO ns rtl f) p rtl ns p.kids)
   have ha:I.length<=12:=by rw [hI,tA,hb];exact hf
   unfold DP
   rw [<-hI]
   show(wQ _ _ _ _ _ _ _ _ _ _).length<=12
   have hl:(uG p I).length<=12:=Nat.le_trans (p7 ..) ha
   rw [qm,eA (tX _ _ _ (by omega))]
   unfold uG
   rw [jb,dA]
   exact ha
theorem xc(ht:aV ns=true)(n:Int)(rtl:Bool)(f:Nat)(w h:aG):(nO ns rtl (f+1) n w h).frames.length<=12:=
 Bl (by unfold flK;rw [mt];exact Nat.le_trans (List.length_filter_le _ _) (rj ht n)) rtl f w h
theorem yU{c:α->Array Value}(xs ys:List α):vw c (xs++ys)=vw c xs++vw c ys:=by simp [vw]
section
variable {P:Program}{n0 N:Nat}{g:Gd}
theorem Dk{β:BP}(hg:g=G0 P n0 N){t k by_:Nat}{es ys:LLA}{q:Prop}(hk:∀y∈ys,y.length=k)(hb:by_<=65536)(hl:es.length<=1073741824)(hl2:ys.length<=1073741824)(hq:q):
  g .N ((∀x,x∈ys->x.length=k)/\((AB.mk t k es).es.length+ys.length)*by_<=140737488355328/\(AB.mk t k es).es.length+ys.length<=4611686018427387904) q:=
 goN hg ⟨hk,Nat.le_trans (Nat.mul_le_mul (show es.length+ys.length<=2147483648 by omega) hb) (by decide),by show es.length+ys.length<=_;omega⟩ hq
end
theorem uN3:uN 3=1884:=rfl
theorem B8{f:Nat}(h:f<=3):uN f<=1884:=by
 rcases f with _|_|_|_|f<;>first|decide|omega
theorem kj(ns:List af)(hl:ns.length<=1048576)(n kid:Int)(x y:af)(h1:isN ns n=true)(h2:isN ns kid=true)(hx:ns[(n-1).toNat]? =some x)(hy:ns[(kid-1).toNat]? =some y)(rtl:Bool)(b:Bv)(hbx:nM (vwA af.ac ns) rtl b kid)(wide high:Int):PC0 55 [.agg (gz (vwA af.ac ns) rtl),ai n,ai kid,ai wide,ai high] (.t (.agg (lc (ag.c (apG b ns rtl n kid wide high))))):=by
 have ca:=m8 ns n kid x y hl h1 h2 hx hy rtl wide high
 unfold apG
 rw [gR hx,gR hy]
 obtain⟨p,hp⟩:=nmE x.style
 obtain⟨s,hs⟩:=nmE y.style
 rw [<-hp,<-hs]at ca⊢
 unfold apF atF
 obtain⟨V,hV⟩:=nmE (vwA af.ac ns)
 rw [<-hV]at hbx ca⊢
 obtain⟨W,hW⟩:=nmE (wv p wide);(try rw [<-hW]at ca);(try rw [<-hW]at⊢)
 obtain⟨H,hH⟩:=nmE (xU p high);(try rw [<-hH]at ca);(try rw [<-hH]at⊢)
 have cs:=ox p s rtl W H
 obtain⟨⟨X0,X1⟩,hX⟩:∃X,X=apX s rtl W H:=⟨_,rfl⟩
 obtain⟨⟨Y0,Y1⟩,hY⟩:∃X,X=apY s rtl W H:=⟨_,rfl⟩
 rw [<-hX,<-hY]at cs⊢
 have cB:=hbx X0 X1 Y0 Y1
 obtain⟨q,hq⟩:=nmE (b kid ⟨X0,X1⟩ ⟨Y0,Y1⟩)
 rw [<-hq]at cB⊢
 rw [show lw.ac q=[.J q.wide,.J q.high,.J q.base,.view (vw ag.c q.frames)]from rfl]at cB
 obtain⟨FR,hw⟩:=nmE (vw ag.c q.frames);(try rw [<-hw]at cB)
 have c1:=bq s true W q.wide
 have c2:=bq s false H q.high
 obtain⟨fw,hu⟩:=nmE (kF s true W q.wide);(try rw [<-hu]at c1);(try rw [<-hu]at⊢)
 obtain⟨fh,ht⟩:=nmE (kF s false H q.high);(try rw [<-ht]at c2);(try rw [<-ht]at⊢)
 have cF:=dr p
 obtain⟨⟨r0,r1,r2,r3⟩,hr⟩:∃q,q=kz p:=⟨_,rfl⟩
 rw [<-hr]at cF⊢
 have i0:=fJ p s rtl W H 0 (.inl rfl)
 have i2:=fJ p s rtl W H 2 (.inr rfl)
 have i1:=fI p s rtl W H 1 (.inl rfl)
 have i3:=fI p s rtl W H 3 (.inr rfl)
 have m0:=bd p s rtl W H 0
 have m1:=bd p s rtl W H 1
 have m2:=bd p s rtl W H 2
 have m3:=bd p s rtl W H 3
 obtain⟨B0,ha⟩:=nmE (vd s 0 rtl W);(try rw [<-ha]at i0);(try rw [<-ha]at⊢)
 obtain⟨B1,hb⟩:=nmE (vd s 1 rtl H);(try rw [<-hb]at i1);(try rw [<-hb]at⊢)
 obtain⟨B2,hc⟩:=nmE (vd s 2 rtl W);(try rw [<-hc]at i2);(try rw [<-hc]at⊢)
 obtain⟨B3,he⟩:=nmE (vd s 3 rtl H);(try rw [<-he]at i3);(try rw [<-he]at⊢)
 obtain⟨I0,hf⟩:=nmE (vc s 0 rtl W);(try rw [<-hf]at i0);(try rw [<-hf]at⊢)
 obtain⟨I1,hh⟩:=nmE (vc s 1 rtl H);(try rw [<-hh]at i1);(try rw [<-hh]at⊢)
 obtain⟨I2,hi⟩:=nmE (vc s 2 rtl W);(try rw [<-hi]at i2);(try rw [<-hi]at⊢)
 obtain⟨I3,hj⟩:=nmE (vc s 3 rtl H);(try rw [<-hj]at i3);(try rw [<-hj]at⊢)
 obtain⟨M0,hk⟩:=nmE (ir s.margin 0 rtl W);(try rw [<-hk]at m0);(try rw [<-hk]at⊢)
 obtain⟨M1,hm⟩:=nmE (ir s.margin 1 rtl W);(try rw [<-hm]at m1);(try rw [<-hm]at⊢)
 obtain⟨M2,hn⟩:=nmE (ir s.margin 2 rtl W);(try rw [<-hn]at m2);(try rw [<-hn]at⊢)
 obtain⟨M3,ho⟩:=nmE (ir s.margin 3 rtl W);(try rw [<-ho]at m3);(try rw [<-ho]at⊢)
 clear ha hb hc he hf hh hi hj hk hm hn ho hr hu ht hw hq hX hY hW hH hp hs hbx hV
 dsimp only at *
 refine gk ([(5,.hand)]) ([]) (c:=aM f55) aB func55 (by kernel_rfl) (by kernel_rfl) (by rfl) (by kernel_rfl) fun g hB hd F hz hA hg hF=> ?_
 cbv
 (repeat'((first|refine ad hg ca ?_|refine ad hg cs ?_|refine ad hg cB ?_|refine aa hg c1 ?_|refine aa hg c2 ?_);cbv))
 refine jc hg hA aB [0,1,2,3,4,5] (.op 6 [] (.op 7 [] (.op 8 [] (.op 9 [] .done .none) .none) .none) (.op 7 [] (.op 6 [] (.op 8 [] (.op 9 [] .done .none) .none) .none) .none)) (by kernel_rfl) (by kernel_rfl) (S:=Unit) (fun _=>True) (fun _=>[(3,.i (wide)),(4,.i (high)),(5,.p 0),(10,.p 1),(11,.p 2),(15,.p 3),(16,.p 4),(17,.p 5)]) (fun _=>[.bx 76 3 (gz V rtl),.bx 45 5 [.J 0,.J 0,.J 0,.J 0,.J 0],.bx 134 123 (apC p s rtl W H),.bx 45 5 [.J kid,.J 0,.J 0,.J fw,.J fh],.bx 34 4 [.J p.border.left,.J p.border.top,.J p.border.right,.J p.border.bottom],.bx 34 4 [.J r0,.J r1,.J r2,.J r3]]) (fun BL hv=> ?_) (fun _ _=> ?_)
 ·cbv
  ((repeat'(first|exact trivial|exact rfl|refine And.intro ?_ ?_|(refine aa hg cF ?_;cbv))))
  all_goals first
   |exact hv () trivial _ _ (Wk.weak (wkG [some 0,some 1,some 2,some 6,some 7,some 8] zr8 ⟨wqE rfl rfl,wqE rfl rfl,wqE rfl rfl,wqE rfl rfl,wqE rfl rfl,wqE rfl rfl,trivial⟩ (by decide) aw))
   |exact hv () trivial _ _ (Wk.weak (wkG [some 0,some 1,some 2,some 6,some 8,some 7] zr8 ⟨wqE rfl rfl,wqE rfl rfl,wqE rfl rfl,wqE rfl rfl,wqE rfl rfl,wqE rfl rfl,trivial⟩ (by decide) aw))
 cbv
 (repeat'(first|((first|refine ad hg i0 ?_|refine ad hg i1 ?_|refine ad hg i2 ?_|refine ad hg i3 ?_|refine aa hg m0 ?_|refine aa hg m1 ?_|refine aa hg m2 ?_|refine aa hg m3 ?_);cbv)|(cases B0<;>cbv)|(cases B1<;>cbv)|(cases B2<;>cbv)|(cases B3<;>cbv)|(cases rtl<;>cbv)))
 all_goals exact mh hF rfl ⟨by simp only [aJ hg,dP hg];rfl,rfl⟩
theorem iz(ns:List af)(n:Int)(nd:af)(h1:isN ns n=true)(hl:ns.length<=1048576)(hnx:ns[(n-1).toNat]? =some nd)(hkl:nd.kids.length<=12)(c:Nat)(hc12:12*c+1<=1048576)(R:Int->List Int)(hR:∀k∈nd.kids,cj prog 99 [.agg [.view (vwA af.ac ns)],ai k] fun res ha=>res= .o 0/\ha=[⟨3,1,vw ak (R k)⟩])(hRl:∀k∈nd.kids,(R k).length<=c):cj prog 99 [.agg [.view (vwA af.ac ns)],ai n] fun res ha=>res= .o 0/\ha=[⟨3,1,vw ak (n::nd.kids.flatMap R)⟩]:=by
 have cF:=fun k(h:k∈nd.kids)=>fB (hR k h) (sN (c:=ak) (k:=1) fun _=>rfl) ij
 clear hR
 obtain⟨W,hW⟩:=nmE (n::nd.kids.flatMap R)
 have hs:W.length<=1048576:=by
  rw [hW,zqx]
  have h2:=tN R c nd.kids hRl
  have h3:=Nat.mul_le_mul_right c hkl
  omega
 rw [<-hW]
 have b2:=aI h1
 obtain⟨V,hV⟩:=nmE (vwA af.ac ns)
 obtain⟨Rt,hn⟩:=nmE (vw aK.c nd.table.rules)
 obtain⟨K,hK⟩:=nmE (vw ak nd.kids)
 have hq:K.length=nd.kids.length:=by rw [hK,ao]
 have iK:=imV hK
 have kK:=kmV (k:=1) hK fun _=>rfl
 have dK:=dmV hK
 have cy:=aR ns n nd b2.1 (by have:=b2.2.1;omega) hnx V K Rt hV hK hn
 simp only [<-hV]at cF
 rw [<-hV]
 obtain⟨Z,hZ⟩:=nmE (vw ak W)
 rw [<-hZ]
 have hh:nd.kids.length<=1048576:=by omega
 refine ae (aM f99) aB func99 fun g F hg hF=> ?_
 cbv
 (repeat'(refine ad hg cy ?_;cbv))
 refine aU hg aB (by kernel_rfl) K (fun x=>lc (ak x)) nd.kids hK hh (fun z(s:List Int×LLA)=>[(2,.p 0),(5,.o 1),(13,.v K),(14,.i (g .ln K)),(15,.i (z))]) (fun z(s:List Int×LLA)=>[.bx 28 1 [.view V],.rw ⟨3,1,s.2⟩]) (fun z(s:List Int×LLA)=>s.2=vw ak s.1) (fun(s:List Int×LLA) rest=>s.1++rest.flatMap R) (W) ([n],[[.J n]]) (by rw [hW];rfl) rfl (Wk.weak (wkG [some _,some _] zr5 ⟨wqE rfl rfl,wqE rfl rfl,trivial⟩ (by decide) aw)) (fun z s B hz h0 hi he=> ?_) (fun z s x rest B z0 z1 z2 hx hy h0 hi hc e1 hB=> ?_)
 ·obtain⟨hd,E⟩:=s
  dsimp only at hi h0
  have pE:=pmV hi
  obtain rfl:hd=W:=by simpa using h0
  rw [hZ,<-hi]at hF
  cbv;rw [he];cbv
  exact db hF rfl pE
 ·obtain⟨hd,E⟩:=s
  dsimp only at hi h0
  have hk:x∈nd.kids:=zqd hx
  have cF:=cF x hk
  have ho:=hRl x hk
  obtain⟨Q,hQ⟩:=nmE (vw ak (R x))
  have hr:Q.length=(R x).length:=by rw [hQ,ao]
  have iQ:=imV hQ
  have kQ:=kmV (k:=1) hQ fun _=>rfl
  have dQ:=dmV hQ
  rw [<-hQ]at cF
  have hb:=congrArg List.length h0
  rw [zqe]at hb
  have hm:E.length<=1073741824:=by rw [hi,ao];omega
  have hf:Q.length<=1073741824:=by omega
  have h3:(hd++R x)++rest.flatMap R=W:=by rw [<-h0];simp
  have aE:E++Q=vw ak (hd++R x):=by rw [hi,hQ,yU]
  obtain⟨E2,hj⟩:=nmE (E++Q)
  rw [<-hj]at aE
  have hp:=pmV aE
  clear hb ho
  cbv;rw [hc];cbv;refine goX hg _ z0 hy rfl ?_;cbv
  (repeat'((first|rw [e1]|refine ad hg cF ?_|refine Dk hg kQ (by decide) hm hf ?_;cbv;rw [ig hg,<-hj]);cbv))
  exact hB ((hd++R x,E2)) _ _ ⟨h3,aE⟩ (Wk.weak (wkG [some _,some 2] zr5 ⟨wqE rfl rfl,wqE rfl hp,trivial⟩ (by decide) aw))
theorem iB(ns:List af)(hl:ns.length<=1048576)(ht:aV ns=true):∀(f:Nat),f<=3->∀n:Int,isN ns n=true->4<=jn ns n+(f:Int)->cj prog 99 [.agg [.view (vwA af.ac ns)],ai n] fun res ha=>res= .o 0/\ha=[⟨3,1,vw ak (xl ns f n)⟩]
 |0,_,n,hn,hd=>by
  obtain⟨n1,n2,x,hx⟩:=aI hn
  have hk:=rg ht hn hx (by omega)
  have:=iz ns n x hn hl hx (by rw [hk];simp) 0 (by decide) (fun _=>[]) (by rw [hk];simp) (by rw [hk];simp)
  rw [hk]at this
  exact this
 |f+1,hf,n,hn,hd=>by
  obtain⟨n1,n2,x,hx⟩:=aI hn
  have he:=pi ht n1 hx
  have hc:=fM ht n1 hx
  have hb:12*(uN f+1)+1<=1048576:=by
   rcases f with _|_|_|f
   ·decide
   ·decide
   ·decide
   ·omega
  have:=iz ns n x hn hl hx he (uN f+1) hb (xl ns f) (fun k hk=>iB ns hl ht f (by omega) k (hc k hk) (by have:=qc ht n1 hx k hk;omega)) (fun k _=>lr ht f k)
  rw [<-qa hx]at this
  exact this
theorem sn(V:LLA)(n:Int)(xs:List Int)(hxl:xs.length<=1048576)(hA:cj prog 99 [.agg [.view V],ai n] fun res ha=>res= .o 0/\ha=[⟨3,1,vw ak xs⟩]):cj prog 71 [.agg [.view V],ai n] fun res ha=>res= .o 0/\ha=[⟨45,5,vw ag.c (uL xs)⟩]:=by
 have cA:=fB hA (sN (c:=ak) (k:=1) fun _=>rfl) ij
 clear hA
 unfold uL
 obtain⟨W,hW⟩:=nmE (xs.map fun k=>(⟨k,0,0,0,0⟩:ag))
 have hl:W.length<=1048576:=by rw [hW,zql];exact hxl
 rw [<-hW]
 obtain⟨K,hK⟩:=nmE (vw ak xs)
 have hk:=lmV hK
 have iK:=imV hK
 have kK:=kmV (k:=1) hK fun _=>rfl
 have dK:=dmV hK
 rw [<-hK]at cA
 obtain⟨Z,hZ⟩:=nmE (vw ag.c W)
 rw [<-hZ]
 refine ae (aM f71) aB func71 fun g F hg hF=> ?_
 cbv
 (repeat'(refine ad hg cA ?_;cbv))
 refine aU hg aB (by kernel_rfl) K (fun x=>lc (ak x)) xs hK hxl (fun z(s:List ag×LLA)=>[(2,.p 0),(5,.o 1),(10,.v K),(11,.i (g .ln K)),(12,.i (z))]) (fun z(s:List ag×LLA)=>[.bx 28 1 [.view V],.rw ⟨45,5,s.2⟩]) (fun z(s:List ag×LLA)=>s.2=vw ag.c s.1) (fun(s:List ag×LLA) rest=>s.1++rest.map (fun k=>(⟨k,0,0,0,0⟩:ag))) (W) ([],[]) (by rw [hW];rfl) rfl (Wk.weak (wkG [some _,none] zr5 ⟨wqE rfl rfl,⟨_,rfl,rfl⟩,trivial⟩ (by decide) aw)) (fun z s B hz h0 hi he=> ?_) (fun z s x rest B z0 z1 z2 hx hy h0 hi hc e1 hB=> ?_)
 ·obtain⟨hd,E⟩:=s
  dsimp only at hi h0
  have pE:=pmV hi
  obtain rfl:hd=W:=by simpa using h0
  rw [hZ,<-hi]at hF
  cbv;rw [he];cbv
  exact db hF rfl pE
 ·obtain⟨hd,E⟩:=s
  dsimp only at hi h0
  have hb:=congrArg List.length h0
  rw [zqe]at hb
  have hh:E.length<=1048576:=by rw [hi,ao];omega
  have h3:(hd++[(⟨x,0,0,0,0⟩:ag)])++rest.map (fun k=>(⟨k,0,0,0,0⟩:ag))=W:=by rw [<-h0];simp
  have aE:E++[[.J x,.J 0,.J 0,.J 0,.J 0]]=vw ag.c (hd++[(⟨x,0,0,0,0⟩:ag)]):=by rw [hi,dy];rfl
  obtain⟨E2,hf⟩:∃E2,E2=E++[[.J x,.J 0,.J 0,.J 0,.J 0]]:=⟨_,rfl⟩
  rw [<-hf]at aE
  have hj:=pmV aE
  clear hb
  cbv;rw [hc];cbv;refine goX hg _ z0 hy rfl ?_;cbv
  (repeat'((first|rw [e1]|refine fR hg rfl (by decide) hh ?_;cbv;rw [ig hg,<-hf]);cbv))
  exact hB ((hd++[(⟨x,0,0,0,0⟩:ag)],E2)) _ _ ⟨h3,aE⟩ (Wk.weak (wkG [some _,some 3] zr5 ⟨wqE rfl rfl,wqE rfl hj,trivial⟩ (by decide) aw))
theorem nf(ns:List af)(hl:ns.length<=1048576)(ht:aV ns=true)(f:Nat)(hf:f<=3)(n:Int)(hn:isN ns n=true)(hd:4<=jn ns n+(f:Int)):cj prog 71 [.agg [.view (vwA af.ac ns)],ai n] fun res ha=>res= .o 0/\ha=[⟨45,5,vw ag.c (uL (xl ns f n))⟩]:=
 sn _ n _ (by have:=lr ht f n;have:=B8 hf;omega) (iB ns hl ht f hf n hn hd)
theorem fO(ns:List af)(hl:ns.length<=1048576)(n:Int)(nd:af)(h1:isN ns n=true)(hnx:ns[(n-1).toNat]? =some nd)(hkl:nd.kids.length<=12)(hkd:∀k∈nd.kids,isN ns k=true)(rtl:Bool)(b:Bv)(hbn:nM (vwA af.ac ns) rtl b n)(hbk:∀k∈nd.kids,nM (vwA af.ac ns) rtl b k)(R:Int->List Int)(c:Nat)(hc12:12*(c+1)<=1048576)(hR:∀k∈nd.kids,cj prog 71 [.agg [.view (vwA af.ac ns)],ai k] fun res hb=>res= .o 0/\hb=[⟨45,5,vw ag.c (uL (R k))⟩])(hRl:∀k,(R k).length<=c+1)
  (U:Int->Int->Int->List ag) (hU:∀k∈nd.kids,∀w h,cj prog 59 [.agg (gz (vwA af.ac ns) rtl),ai k,ai w,ai h] fun res hb=>res= .o 0/\hb=[⟨45,5,vw ag.c (U k w h)⟩]) (hUl:∀k w h,(U k w h).length<=c) (w h:Int) (hbl:(b n ⟨3,w⟩ ⟨3,h⟩).frames.length<=1048576):cj prog 59 [.agg (gz (vwA af.ac ns) rtl),ai n,ai w,ai h] fun res hb=>res= .o 0/\hb=[⟨45,5,vw ag.c (nd.kids.flatMap (zZ b ns rtl n w h (b n ⟨3,w⟩ ⟨3,h⟩).frames R U))⟩]:=by
 have cG:=fun k(h:k∈nd.kids)=>fB (hR k h) (sN (c:=ag.c) (k:=5) fun _=>rfl) ij
 have cU:=fun k(hk:k∈nd.kids) w h=>fB (hU k hk w h) (sN (c:=ag.c) (k:=5) fun _=>rfl) ij
 clear hR hU
 have hs:∀k,(zZ b ns rtl n w h (b n ⟨3,w⟩ ⟨3,h⟩).frames R U k).length<=c+1:=fun k=>by
  unfold zZ
  split
  ·unfold uL;rw [zql];exact hRl k
  ·rw [zqx];have:=hUl k (zt b ns rtl n w h (b n ⟨3,w⟩ ⟨3,h⟩).frames k).wide (zt b ns rtl n w h (b n ⟨3,w⟩ ⟨3,h⟩).frames k).high;omega
 have hS:∀kid∈nd.kids,∃y,ns[(kid-1).toNat]? =some y:=fun kid h=>(aI (hkd kid h)).2.2
 have hG:=fun kid(h:kid∈nd.kids) y hy Ky Ry=>aR ns kid y (aI (hkd kid h)).1 (by have:=(aI (hkd kid h)).2.1;omega) hy (vwA af.ac ns) Ky Ry rfl
 have cA:=fun k(hk:k∈nd.kids) y hy=>kj ns hl n k nd y h1 (hkd k hk) hnx hy rtl b (hbk k hk) w h
 have cB:=hbn 3 w 3 h
 have cF:=fun k=>jx (b n ⟨3,w⟩ ⟨3,h⟩).frames hbl k
 have hL:=bE w
 have hM:=bE h
 obtain⟨uf,hE⟩:=nmE (zZ b ns rtl n w h (b n ⟨3,w⟩ ⟨3,h⟩).frames R U)
 have hr:∀k y,ns[(k-1).toNat]? =some y->uf k=if y.style.hidden then uL (R k)else if y.style.apart then apG b ns rtl n k w h::U k (apG b ns rtl n k w h).wide (apG b ns rtl n k w h).high else(frF k (b n ⟨3,w⟩ ⟨3,h⟩).frames).1::U k (frF k (b n ⟨3,w⟩ ⟨3,h⟩).frames).1.wide (frF k (b n ⟨3,w⟩ ⟨3,h⟩).frames).1.high:=fun k y hy=>by
  rw [hE]
  unfold zZ zt
  rw [gR hy]
  cases q:y.style.apart<;>simp only [Bool.false_eq_true,if_false,if_true]
 rw [<-hE]at hs⊢
 obtain⟨fA,h4⟩:∃f:Int->ag,f=fun kid=>apG b ns rtl n kid w h:=⟨_,rfl⟩
 have h5:∀k,apG b ns rtl n k w h=fA k:=fun k=>by rw [h4]
 simp only [h5]at cA hr
 clear h5 h4 hE
 obtain⟨W,hW⟩:=nmE (nd.kids.flatMap uf)
 have x9:W.length<=1048576:=by
  rw [hW]
  have h2:=tN uf (c+1) nd.kids fun k _=>hs k
  have h3:=Nat.mul_le_mul_right (c+1) hkl
  omega
 rw [<-hW]
 obtain⟨q,hq⟩:=nmE (b n ⟨3,w⟩ ⟨3,h⟩)
 rw [<-hq]at cB
 simp only [<-hq]at cF hr
 rw [show lw.ac q=[.J q.wide,.J q.high,.J q.base,.view (vw ag.c q.frames)]from rfl]at cB
 obtain⟨bw,hY⟩:=nmE q.wide
 obtain⟨bh,hX⟩:=nmE q.high
 obtain⟨bb,hT⟩:=nmE q.base
 rw [<-hY,<-hX,<-hT]at cB
 obtain⟨FR,hA⟩:=nmE (vw ag.c q.frames)
 rw [<-hA]at cB
 simp only [<-hA]at cF
 have b2:=aI h1
 obtain⟨V,hV⟩:=nmE (vwA af.ac ns)
 obtain⟨Rt,hO⟩:=nmE (vw aK.c nd.table.rules)
 obtain⟨K,hK⟩:=nmE (vw ak nd.kids)
 have x8:K.length=nd.kids.length:=by rw [hK,ao]
 have iK:=imV hK
 have kK:=kmV (k:=1) hK fun _=>rfl
 have dK:=dmV hK
 have cy:=aR ns n nd b2.1 (by have:=b2.2.1;omega) hnx V K Rt hV hK hO
 rw [<-hV]at cB⊢
 simp only [<-hV]at cG cU hG cA
 obtain⟨Z,hZ⟩:=nmE (vw ag.c W)
 rw [<-hZ]
 have hD:nd.kids.length<=1048576:=by omega
 clear hbn hbk hY hX hT hA hq hkd hO hV hUl hRl
 refine gk ([(12,.hand)]) ([]) (c:=aM f59) aB func59 (by kernel_rfl) (by kernel_rfl) (by rfl) (by kernel_rfl) fun g x7 hd F hC h6 hg hF=> ?_
 cbv
 (repeat'((first|refine aa hg hL ?_|refine aa hg hM ?_|refine aa hg cB ?_|refine ad hg cy ?_);cbv))
 refine mc ([(12,.hand)]) ([]) hC h6 hg aB (by kernel_rfl) K (fun x=>lc (ak x)) nd.kids hK hD (fun z(s:List ag×LLA)=>[(1,.i (n)),(2,.i (w)),(3,.i (h)),(4,.p 0),(9,.p 1),(10,.o 2),(27,.v K),(28,.i (g .ln K)),(29,.i (z))]) (fun z(s:List ag×LLA)=>[.bx 76 3 (gz V rtl),.bx 127 4 [.J bw,.J bh,.J bb,.view FR],.rw ⟨45,5,s.2⟩]) (fun z(s:List ag×LLA)=>s.2=vw ag.c s.1) (fun(s:List ag×LLA) rest=>s.1++rest.flatMap uf) (W) ([],[]) (by rw [hW];rfl) rfl (Wk.weak (wkG [some _,some _,none] zr9 ⟨wqE rfl rfl,wqE rfl rfl,⟨_,rfl,rfl⟩,trivial⟩ (by decide) aw)) (fun z s B hz h0 hi he=> ?_) (fun z s x rest B z0 z1 z2 hx hy h0 hi hc e1 hB=> ?_)
 ·obtain⟨hj,E⟩:=s
  dsimp only at hi h0
  have pE:=pmV hi
  obtain rfl:hj=W:=by simpa using h0
  rw [hZ,<-hi]at hF
  cbv;rw [he];cbv
  exact db hF rfl pE
 obtain⟨hj,E⟩:=s
 dsimp only at hi h0
 have hp:x∈nd.kids:=zqd hx
 obtain⟨y,hI⟩:=hS x hp
 have ha:=hr x y hI
 have h7:=hs x
 have cG:=cG x hp
 have cU:=cU x hp
 have cA:=cA x hp y hI
 have cF:=cF x
 have cy:=hG x hp y hI _ _ rfl rfl
 obtain⟨Ky,hN⟩:=nmE (vw ak y.kids)
 obtain⟨Ry,hP⟩:=nmE (vw aK.c y.table.rules)
 rw [<-hN,<-hP]at cy
 have hn:=congrArg List.length h0
 rw [zqe]at hn
 have x6:E.length<=1048576:=by rw [hi,ao];omega
 have hw:E.length<=1073741824:=by omega
 obtain⟨ux,ho⟩:=nmE (uf x)
 have h3:(hj++ux)++rest.flatMap uf=W:=by rw [<-h0,ho];simp
 rw [<-ho]at ha h7
 obtain⟨E2,hm⟩:=nmE (E++vw ag.c ux)
 have aE:E2=vw ag.c (hj++ux):=by rw [hm,hi,yU]
 have hJ:=pmV aE
 clear hn hN hP hS hr hs hG
 cases hH:y.style.hidden
 case true=>
  rw [hH,if_pos rfl]at ha
  subst ha
  obtain⟨Q,hQ⟩:=nmE (vw ag.c (uL (R x)));(try rw [<-hQ]at cG);(try rw [<-hQ]at hm)
  have kQ:=kmV (k:=5) hQ fun _=>rfl
  have hf:Q.length<=1073741824:=by rw [hQ,ao];omega
  clear cU cA cF
  obtain⟨c0,c1,⟨c2,c3,c4,c5,c6,c7,c8,c9,xd,xe,xf,⟨xg,xh⟩,⟨xi,xj⟩,⟨xk,xl⟩,⟨xm,xn⟩,⟨xo,xp⟩,⟨xq,xr⟩,⟨xs,xt⟩,xu,⟨⟨xv,xw⟩,⟨xx,xy⟩,⟨xz,xA⟩,⟨xB,xC⟩,⟨xD,xE⟩,⟨xF,xG⟩⟩,⟨⟨xH,xI⟩,⟨xJ,xK⟩,⟨xL,xM⟩,⟨xN,xO⟩,⟨xP,xQ⟩,⟨xR,xS⟩⟩,⟨xT,xU,xV,xW⟩,⟨xX,xY,xZ,x0⟩,x1,x2⟩,x3,⟨x4⟩⟩:=y
  obtain rfl:c9=true:=hH
  cbv;rw [hc];cbv;refine goX hg _ z0 hy rfl ?_;cbv
  (repeat'((first|rw [e1]|refine ad hg cy ?_|refine ad hg cG ?_|refine Dk hg kQ (by decide) hw hf ?_;cbv;rw [ig hg,<-hm]);cbv))
  exact hB ((hj++uL (R x),E2)) _ _ ⟨h3,aE⟩ (Wk.weak (wkG [some _,some _,some 4] zr9 ⟨wqE rfl rfl,wqE rfl rfl,wqE rfl hJ,trivial⟩ (by decide) aw))
 rw [hH,if_neg (by simp)]at ha
 obtain⟨⟨⟨p0,p1,p2,p3,p4⟩,pb⟩,h8⟩:∃r,r=frF x q.frames:=⟨_,rfl⟩
 rw [<-h8]at cF ha
 cases hAp:y.style.apart
 case' true=>
  rw [hAp,if_pos rfl]at ha
  obtain⟨⟨r0,r1,r2,r3,r4⟩,xc⟩:∃r,r=fA x:=⟨_,rfl⟩
  rw [<-xc]at cA ha
  have cU:=cU r3 r4
  dsimp only at ha
  obtain⟨uu,hh⟩:=nmE (U x r3 r4);(try rw [<-hh]at cU);(try rw [<-hh]at ha)
  clear xc
 case' false=>
  rw [hAp,if_neg (by simp)]at ha
  obtain⟨r0,hr0⟩:=nmE p0
  obtain⟨r1,hr1⟩:=nmE p1
  obtain⟨r2,h9⟩:=nmE p2
  obtain⟨r3,xa⟩:=nmE p3
  obtain⟨r4,xb⟩:=nmE p4
  rw [<-hr0,<-hr1,<-h9,<-xa,<-xb]at cF ha
  have cU:=cU r3 r4
  dsimp only at ha
  obtain⟨uu,hh⟩:=nmE (U x r3 r4);(try rw [<-hh]at cU);(try rw [<-hh]at ha)
  clear hr0 hr1 h9 xa xb
 all_goals
  subst ha
  obtain⟨Q,hQ⟩:=nmE (vw ag.c uu);(try rw [<-hQ]at cU)
  have kQ:=kmV (k:=5) hQ fun _=>rfl
  have hf:Q.length<=1073741824:=by rw [hQ,ao];rw [zqx]at h7;omega
  obtain⟨E1,ht⟩:∃E1,E1=E++[[.J r0,.J r1,.J r2,.J r3,.J r4]]:=⟨_,rfl⟩
  have hu:E2=E1++Q:=by rw [hm,ht,hQ];simp [vw];rfl
  have hv:E1.length<=1073741824:=by rw [ht,zqe,zqm];omega
  clear hQ hh cG h8 hm
  obtain⟨c0,c1,⟨c2,c3,c4,c5,c6,c7,c8,c9,xd,xe,xf,⟨xg,xh⟩,⟨xi,xj⟩,⟨xk,xl⟩,⟨xm,xn⟩,⟨xo,xp⟩,⟨xq,xr⟩,⟨xs,xt⟩,xu,⟨⟨xv,xw⟩,⟨xx,xy⟩,⟨xz,xA⟩,⟨xB,xC⟩,⟨xD,xE⟩,⟨xF,xG⟩⟩,⟨⟨xH,xI⟩,⟨xJ,xK⟩,⟨xL,xM⟩,⟨xN,xO⟩,⟨xP,xQ⟩,⟨xR,xS⟩⟩,⟨xT,xU,xV,xW⟩,⟨xX,xY,xZ,x0⟩,x1,x2⟩,x3,⟨x4⟩⟩:=y
  obtain rfl:c9=false:=hH
  obtain rfl:c8=_:=hAp
  cbv;rw [hc];cbv;refine goX hg _ z0 hy rfl ?_;cbv
  (repeat'((first|refine ad hg cy ?_|refine ad hg cF ?_|refine ad hg cA ?_);cbv))
  refine jc hg h6 aB [1,4,5,6,7,8,9] (.op 0 [] (.op 2 [] (.op 3 [10] (.op 11 [] (.op 12 [] .done .none) .none) .none) .none) (.op 2 [] (.op 0 [] (.op 3 [10] (.op 11 [] (.op 12 [] .done .none) .none) .none) .none) .none)) (by kernel_rfl) (by kernel_rfl) (S:=Unit) (fun _=>True) (fun _=>[(1,.i (n)),(2,.i (w)),(3,.i (h)),(4,.p 0),(9,.p 1),(10,.o 2),(27,.v K),(28,.i (g .ln K)),(29,.i (z))]) (fun _=>[.bx 76 3 (gz V rtl),.bx 127 4 [.J bw,.J bh,.J bb,.view FR],.rw ⟨45,5,E2⟩]) (fun BL x5=> ?_) (fun _ _=> ?_)
  ·cbv
   ((repeat'(first|exact trivial|exact rfl|refine And.intro ?_ ?_|((first|refine aa hg cU ?_|refine fR hg rfl (by decide) x6 ?_;cbv;rw [ig hg,<-ht]|refine Dk hg kQ (by decide) hv hf ?_;cbv;rw [ig hg,<-hu]);cbv))))
   all_goals exact x5 () trivial _ _ (Wk.weak (wkG [some _,some _,some 7] zr9 ⟨wqE rfl rfl,wqE rfl rfl,wqE rfl hJ,trivial⟩ (by decide) aw))
  cbv
  ((repeat'(rw [e1];cbv)))
  skip
  exact hB ((hj++_::uu,E2)) _ _ ⟨h3,aE⟩ (Wk.weak (wkG [some _,some _,some 2] zr9 ⟨wqE rfl rfl,wqE rfl rfl,wqE rfl hJ,trivial⟩ (by decide) aw))
theorem fP(ns:List af)(hl:ns.length<=1048576)(hs:∀y∈ns,af.small y)(ht:aV ns=true)(rtl:Bool):∀(f:Nat),f<=3->∀n:Int,isN ns n=true->4<=jn ns n+(f:Int)->∀w h:Int,cj prog 59 [.agg (gz (vwA af.ac ns) rtl),ai n,ai w,ai h] fun res he=>res= .o 0/\he=[⟨45,5,vw ag.c (zY (nO ns rtl 4) ns rtl f n w h)⟩]
 |0,_,n,hn,hd,w,h=>by
  obtain⟨n1,n2,x,hx⟩:=aI hn
  have hk:=rg ht hn hx (by omega)
  have hg:=iU ht hn
  have:=fO ns hl n x hn hx (by rw [hk];simp) (by rw [hk];simp) rtl (nO ns rtl 4) (fC hl hs ht rtl 4 n hn (by omega)) (by rw [hk];simp) (fun _=>[]) 0 (by decide) (by rw [hk];simp) (by simp) (fun _ _ _=>[]) (by rw [hk];simp) (by simp) w h (Nat.le_trans (xc ht n rtl 3 ⟨3,w⟩ ⟨3,h⟩) (by decide))
  rw [hk]at this
  exact this
 |f+1,hf,n,hn,hd,w,h=>by
  obtain⟨n1,n2,x,hx⟩:=aI hn
  have hh:=pi ht n1 hx
  have ha:=fM ht n1 hx
  have hb:12*(uN f+1)<=1048576:=by have:=B8 (show f<=3 by omega);omega
  have hg:=iU ht hn
  have hc:=fun k hk=>qc ht n1 hx k hk
  have:=fO ns hl n x hn hx hh ha rtl (nO ns rtl 4) (fC hl hs ht rtl 4 n hn (by omega)) (fun k hk=>fC hl hs ht rtl 4 k (ha k hk) (by have:=hc k hk;omega)) (xl ns f) (uN f) hb (fun k hk=>nf ns hl ht f (by omega) k (ha k hk) (by have:=hc k hk;omega)) (fun k=>lr ht f k) (zY (nO ns rtl 4) ns rtl f) (fun k hk w h=>fP ns hl hs ht rtl f (by omega) k (ha k hk) (by have:=hc k hk;omega) w h) (fun k w h=>ph ht _ rtl f k w h) w h (Nat.le_trans (xc ht n rtl 3 ⟨3,w⟩ ⟨3,h⟩) (by decide))
  rw [<-qa hx]at this
  exact this
theorem jI(ns:List af)(hl:ns.length<=1048576)(hs:∀y∈ns,af.small y)(ht:aV ns=true)(rtl:Bool)(f:Nat)(hf:f<=3)(n:Int)(hn:isN ns n=true)(hd:4<=jn ns n+(f:Int))(w h:Int):PC0 59 [.agg (gz (vwA af.ac ns) rtl),ai n,ai w,ai h] (.t (.c (.view (vw ag.c (zY (nO ns rtl 4) ns rtl f n w h))))):=
 fB (fP ns hl hs ht rtl f hf n hn hd w h) (sN (c:=ag.c) (k:=5) fun _=>rfl) ij
def sR(V:LLA)(rtl keeps:Bool):S3K:=⟨91,5,[.view V,.B rtl,.B keeps],157,10,172,6⟩
def SA(qs:List ui):LLA:=vw ui.c qs
theorem acE(q:lw):lw.ac q=[.J q.wide,.J q.high,.J q.base,.view (vw ag.c q.frames)]:=rfl
def cN:Nat->Nat
 |0=>0
 |f+1=>40*cN f+1
def rtV(b:Bv)(s:ah)(n wide high:Int):Int×Int:=(kF s true wide (b n (nX s true wide) (nX s false high)).wide,kF s false high (b n (nX s true wide) (nX s false high)).high)
def Ap(ns:List af)(n:Int):Bool:=aV ns&&isN ns n
theorem lM(ns:List af)(hl:ns.length<=1048576)(n:Int)(x:af)(h1:isN ns n=true)(hx:ns[(n-1).toNat]? =some x)(rtl:Bool)(b:Bv)(hbx:nM (vwA af.ac ns) rtl b n)(wide high:Int):PC0 72 [.agg (gz (vwA af.ac ns) rtl),ai n,ai wide,ai high] (.tup [ai (rtV b (kst ns n) n wide high).1,ai (rtV b (kst ns n) n wide high).2]):=by
 rw [gR hx]
 unfold rtV
 dsimp only
 obtain⟨Ky,hd⟩:=nmE (vw ak x.kids)
 obtain⟨Ry,he⟩:=nmE (vw aK.c x.table.rules)
 have b2:=aI h1
 obtain⟨V,hV⟩:=nmE (vwA af.ac ns)
 have cy:=aR ns n x b2.1 (by have:=b2.2.1;omega) hx V Ky Ry hV hd he
 rw [<-hV]at hbx⊢
 have cR:=li x.style wide high
 obtain⟨⟨u0,u1⟩,hU⟩:∃q,q=nX x.style true wide:=⟨_,rfl⟩
 obtain⟨⟨v0,v1⟩,hW⟩:∃q,q=nX x.style false high:=⟨_,rfl⟩
 rw [<-hU,<-hW]at cR⊢
 have cB:=hbx u0 u1 v0 v1
 obtain⟨q,hq⟩:=nmE (b n ⟨u0,u1⟩ ⟨v0,v1⟩)
 rw [<-hq]at cB⊢
 rw [acE]at cB
 obtain⟨FR,hc⟩:=nmE (vw ag.c q.frames);(try rw [<-hc]at cB)
 have c1:=bq x.style true wide q.wide
 have c2:=bq x.style false high q.high
 obtain⟨X1,ha⟩:=nmE (kF x.style true wide q.wide);(try rw [<-ha]at c1);(try rw [<-ha]at⊢)
 obtain⟨X2,hb⟩:=nmE (kF x.style false high q.high);(try rw [<-hb]at c2);(try rw [<-hb]at⊢)
 clear ha hb hc hq hU hW hd he hV hbx
 obtain⟨x0,x1,x2,x3,x4⟩:=x
 dsimp only at *
 refine ae (aM f72) aB func72 fun g F hg hF=> ?_
 cbv
 (repeat'((first|refine ad hg cy ?_|refine ad hg cR ?_|refine ad hg cB ?_|refine aa hg c1 ?_|refine aa hg c2 ?_);cbv))
 exact mh hF rfl ⟨rfl,rfl⟩
end Go.Proofs.YtckchgoblpgpbaaGreat
