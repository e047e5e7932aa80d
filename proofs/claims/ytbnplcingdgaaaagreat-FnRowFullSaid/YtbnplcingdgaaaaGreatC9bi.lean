/- A column is a row laid down: plain law. -/
import Derived.Test.YtbnplcingdgaaaaGreatC9bh
set_option linter.unusedVariables false
set_option linter.unusedSimpArgs false
set_option maxHeartbeats 1600000
namespace Go.Proofs.YtbnplcingdgaaaaGreat
open Go.ChangeShapes Go.WideShapes Go.ChangeAt Go.RowKit Am Go.Proofs.Tryz
set_option maxRecDepth 100000
abbrev qa:Int->Array Value:=fun b=> #[.int .u8 b]
abbrev Cur(V:LLA)(i h:Int):List AC:=[.view V,.J i,.J h]
section
variable {n0 N:Nat}{g:Gd}
theorem DB(hg:g=G0 prog n0 N)(a:Int)(m:Nat)(hm:m<=1073741823):0<=g .w .and .i64 a m/\g .w .and .i64 a m<=m:=by
 subst hg
 show 0<=IntKind.i64.wrap ((BitVec.ofInt 64 a&&&BitVec.ofInt 64 (m:Int)).toNat:Int)/\IntKind.i64.wrap ((BitVec.ofInt 64 a&&&BitVec.ofInt 64 (m:Int)).toNat:Int)<=m
 have h1:(BitVec.ofInt 64 a&&&BitVec.ofInt 64 (m:Int)).toNat<=m:=by
  rw [BitVec.toNat_and]
  refine Nat.le_trans Nat.and_le_right ?_
  rw [BitVec.toNat_ofInt]
  omega
 have h2:IntKind.i64.wrap ((BitVec.ofInt 64 a&&&BitVec.ofInt 64 (m:Int)).toNat:Int)=((BitVec.ofInt 64 a&&&BitVec.ofInt 64 (m:Int)).toNat:Int):=by
  rw [show IntKind.i64.wrap ((BitVec.ofInt 64 a&&&BitVec.ofInt 64 (m:Int)).toNat:Int)=wrap64 ((BitVec.ofInt 64 a&&&BitVec.ofInt 64 (m:Int)).toNat:Int)from IntWalk.i64_left _]
  unfold wrap64
  omega
 rw [h2]
 omega
variable {F:List AT->EH->Prop}
theorem wK{Post:AV->AH->Prop}{xs:List AT}{eh:EH}{t k:Nat}{c:List AC}(hF:F=lr 1 Post)(h0:nth eh 0=some (.bx t k c))(hc:c.all dx=true)(hx:fj (mkV xs)=true)(hpost:Post (mkV xs) (toH [.bx t k c])):F xs eh:=by
 subst hF
 exact .inl ⟨mkV xs,toH [.bx t k c],[some 0],wkG [some 0] ⟨mt hx,trivial⟩ ⟨⟨_,_,mL h0,rfl,rfl,rfl,.inl ⟨rfl,by simpa [aN]using hc⟩⟩,trivial⟩,hpost⟩
theorem CK{Post:AV->List AB->Prop}{eh:EH}{t k r:Nat}{c:List AC}(hF:F=lr 0 (fun res h'=>∃rows,h'=rows.map .live/\Post res rows))(h0:nth eh r=some (.bx t k c))(hc:c.all dx=true)(hpost:Post (.p 0) [⟨t,k,[c]⟩]):F [.c (.ptr r 0 0)] eh:=by
 subst hF
 exact .inl ⟨.p 0,toH [.bx t k c],[some r],wkG [some r] zr1 ⟨⟨_,_,mL h0,rfl,rfl,rfl,.inl ⟨rfl,by simpa [aN]using hc⟩⟩,trivial⟩ (by simp) aq,_,rfl,hpost⟩
abbrev Bn(f:FuncId)(tc:Nat)(V:LLA)(i h:Int)(args:List AT)(Q:AV->Prop):Prop:=
 Con prog f (toH [.bx tc 3 (Cur V i h)]) (.c (.ptr 0 0 0)::args) fun res h'=>∃eh,toH eh=h'/\∃i' k',0<=i'/\eh=[.bx tc 3 (Cur V i' k')]/\Q res
theorem oI(hg:g=G0 prog n0 N){H:EH}(r:Nat){f:FuncId}{tc:Nat}{V:LLA}{i h:Int}{args:List AT}{Q:AV->Prop}{K:AV->EH->Prop}(hc:Bn f tc V i h args Q)(hr:nth H r=some (.bx tc 3 (Cur V i h)))(ha:(args.all lw)=true)
  (hK:∀(i' k':Int)(res:AV),0<=i'->Q res->K (res.mv (plc [r] H.length)) (uQ H r (.bx tc 3 (Cur V i' k')))):g .C f H (.c (.ptr r 0 0)::args) K:=by
 have hb:r<H.length:=by rw [dR]at hr;exact(List.getElem?_eq_some_iff.1 hr).1
 refine Bf hg [r] hc (by simp) (by simpa using hb) ⟨⟨_,_,rfl,by rw [hr];rfl,rfl,rfl,.inl ⟨rfl,rfl⟩⟩,trivial⟩ ⟨rfl,kP ha⟩ fun res eh⟨i',k',h1,h2,h3⟩=> ?_
 subst h2
 have:=hK i' k' res h1 h3
 rw [ju]at this
 simpa [bT,EE.mv,AC.mv]using this
end
theorem oW(bs:List Int)(hl:bs.length<=1048576):du prog 15 [.c (.view (vw qa bs))] fun res ha=>∃hv:Int,res= .p 0/\ha=[⟨73,3,[Cur (vw qa bs) 0 hv]⟩]:=by
 obtain⟨V,hV⟩:=nmE (vw qa bs)
 have hf:=lmV hV
 rw [<-hV]
 refine ae (aP f15) aC func15 fun g F hg hF=> ?_
 cbv
 refine ir hg aC (by kernel_rfl) (fun s:Int×Int=>[(0,.v V),(3,.i (s.2)),(4,.i (s.1))]) (fun s=>[]) (fun s=>0<=s.1/\s.1<=aD V) (fun s=>(aD V).toNat-s.1.toNat) (0,g .w .add .i64 94701 (g .ln V)) ⟨by simp,by simp only [az];omega⟩ (Wk.weak (wkG [] zr3 trivial (by decide) aq)) (fun s B hs hB=> ?_)
 obtain⟨z,hv⟩:=s
 obtain⟨h0,h1⟩:=hs
 simp only at h0 h1
 have hc:aD V<=1048576:=by rw [az];omega
 have t0:g .q .lss z (g .ln V)=decide (z<aD V):=by rw [bD hg,bH hg]
 by_cases hz:z<aD V
 ·have he:z.toNat<bs.length:=by rw [az]at hz;omega
  have hd:V[z.toNat]? =some (lc (qa bs[z.toNat])):=by rw [hV];exact bu (zqc he)
  have ez:g .w .add .i64 z 1=z+1:=by rw [aJ hg];exact wr1 (by omega) (by omega)
  have hb:∀q:Int,B ([(0,.v V),(3,.i (q)),(4,.i ((z+1)))]) []:=fun q=>by
   subst hB
   exact⟨(z+1,q),⟨by simp only;omega,by simp only;omega⟩,by simp only;omega,Wk.weak (wkG [] zr3 trivial (by decide) aq)⟩
  cbv
  rw [t0,zqu hz]
  cbv
  cases hq:g .q .lss z 4000
  ·cbv
   exact CK hF rfl rfl ⟨_,rfl,rfl⟩
  ·cbv
   refine goX hg _ h0 hd rfl ?_
   cbv
   rw [ez]
   subst hB
   exact⟨(z+1,_),⟨by simp only;omega,by simp only;omega⟩,by simp only;omega,Wk.weak (wkG [] zr3 trivial (by decide) aq)⟩
 ·cbv
  rw [t0,zqt hz]
  cbv
  exact CK hF rfl rfl ⟨_,rfl,rfl⟩
theorem nH(bs:List Int)(hl:bs.length<=1048576)(i h:Int)(hi:0<=i):Bn 27 73 (vw qa bs) i h [] fun res=>∃x:Int,res= .i x/\0<=x/\x<=255:=by
 obtain⟨V,hV⟩:=nmE (vw qa bs)
 have hd:=lmV hV
 have ha:aD V<=1048576:=by rw [az];omega
 rw [<-hV]
 refine p8 (c:=aP f27) aC func27 (by kernel_rfl) (by kernel_rfl) (bl (by rfl)) (by kernel_rfl) fun g F hg hF=> ?_
 replace hg:g=G0 prog 1 f27.ntmps:=hg
 replace hF:F=lr 1 _:=hF
 have t0:g .q .lss i (g .ln V)=decide (i<aD V):=by rw [bD hg,bH hg]
 have hx:∀a:Int,0<=g .w .and .i64 a 255/\g .w .and .i64 a 255<=255:=fun a=>DB hg a 255 (by decide)
 cbv
 refine goN hg (by decide) ?_
 cbv
 refine goN hg (by decide) ?_
 cbv
 rw [t0]
 by_cases hz:i<aD V
 ·have hc:i.toNat<bs.length:=by rw [az]at hz;omega
  have hb:V[i.toNat]? =some (lc (qa bs[i.toNat])):=by rw [hV];exact bu (zqc hc)
  have ez:g .w .add .i64 i 1=i+1:=by rw [aJ hg];exact wr1 (by omega) (by omega)
  rw [zqu hz]
  cbv
  refine goX hg _ hi hb rfl ?_
  cbv
  rw [ez]
  exact wK hF rfl rfl rfl ⟨_,rfl,_,_,by omega,rfl,_,rfl,(hx _).1,(hx _).2⟩
 ·rw [zqt hz]
  cbv
  exact wK hF rfl rfl rfl ⟨_,rfl,_,_,hi,rfl,_,rfl,(hx _).1,(hx _).2⟩
theorem ml(bs:List Int)(hl:bs.length<=1048576)(i h n:Int)(hi:0<=i):Bn 16 73 (vw qa bs) i h [ai n] fun res=>∃x:Int,res= .i x/\0<=x/\(0<n->x<n)/\(n<=0->x=0):=by
 have cb:=fun(i h:Int)(hi:0<=i)=>nH bs hl i h hi
 obtain⟨V,hV⟩:=nmE (vw qa bs)
 simp only [<-hV]at cb⊢
 refine p8 (c:=aP f16) aC func16 (by kernel_rfl) (by kernel_rfl) (bl (by rfl)) (by kernel_rfl) fun g F hg hF=> ?_
 replace hg:g=G0 prog 1 f16.ntmps:=hg
 replace hF:F=lr 1 _:=hF
 have t0:g .q .leq n 0=decide (n<=0):=iO hg _ _
 have t1:g .q .leq n 256=decide (n<=256):=iO hg _ _
 by_cases h0:n<=0
 ·cbv
  rw [t0,zqu h0]
  cbv
  exact wK hF rfl rfl rfl ⟨_,rfl,_,_,hi,rfl,0,rfl,by omega,by omega,by omega⟩
 ·have ha:∀y:Int,0<=y->0<=y.tmod n/\y.tmod n<n:=fun y hy=>⟨Int.tmod_nonneg n hy,Int.tmod_lt_of_pos y (by omega)⟩
  cbv
  rw [t0,zqt h0]
  cbv
  rw [t1]
  by_cases h1:n<=256
  ·rw [zqu h1]
   cbv
   refine oI hg 0 (cb _ _ hi) rfl rfl fun i1 k1 res hb hq=> ?_
   obtain⟨x,rfl,hc,hh⟩:=hq
   cbv
   refine uw hg (by omega) ?_
   cbv
   rw [gI hg]
   exact wK hF rfl rfl rfl ⟨_,rfl,_,_,hb,rfl,_,rfl,(ha x hc).1,fun _=>(ha x hc).2,fun h=>absurd h h0⟩
  ·rw [zqt h1]
   cbv
   refine oI hg 0 (cb _ _ hi) rfl rfl fun i1 k1 res hb hq=> ?_
   obtain⟨x,rfl,hc,hh⟩:=hq
   cbv
   refine oI hg 0 (cb _ _ hb) rfl rfl fun i2 k2 res hd hq=> ?_
   obtain⟨y,rfl,hn,ho⟩:=hq
   cbv
   refine oI hg 0 (cb _ _ hd) rfl rfl fun i3 k3 res he hq=> ?_
   obtain⟨z,rfl,hp,hr⟩:=hq
   cbv
   refine oI hg 0 (cb _ _ he) rfl rfl fun i4 k4 res hf hq=> ?_
   obtain⟨w,rfl,hj,hk⟩:=hq
   cbv
   refine uw hg (by omega) ?_
   cbv
   have e:g .w .add .i64 (g .w .add .i64 (g .w .add .i64 (g .w .mul .i64 x 16777216) (g .w .mul .i64 y 65536)) (g .w .mul .i64 z 256)) w=x*16777216+y*65536+z*256+w:=by
    simp only [aJ hg,jD hg]
    unfold wrap64
    omega
   rw [gI hg,e]
   have hm:=ha (x*16777216+y*65536+z*256+w) (by omega)
   exact wK hF rfl rfl rfl ⟨_,rfl,_,_,hf,rfl,_,rfl,hm.1,fun _=>hm.2,fun h=>absurd h h0⟩
theorem xt{α:Type}(c:α->Array Value)(xs:List α)(x:α):vw c (xs++[x])=vw c xs++[lc (c x)]:=by simp [vw]
section
variable {n0 N:Nat}{g:Gd}
theorem Be(hg:g=G0 prog n0 N){H:EH}{f:FuncId}{tc:Nat}{V:LLA}{K:AV->EH->Prop}(hc:du prog f [.c (.view V)] fun res ha=>∃hv:Int,res= .p 0/\ha=[⟨tc,3,[Cur V 0 hv]⟩])
  (hK:∀hv:Int,K (.t (.c (.ptr (jA H) 0 0))) (H++[.bx tc 3 (Cur V 0 hv)])):g .C f H [.c (.view V)] K:=
 p9 hg (ee hc rfl fun res ha⟨hv,h1,h2⟩=>by
  subst h1 h2
  refine⟨[.bx tc 3 (Cur V 0 hv)],rfl,?_⟩
  have:=hK hv
  rw [bL]at this
  simpa [AV.shift,AT.shift,AC.shift,aV]using this)
end
theorem kI(bs:List Int)(hl:bs.length<=1048576):du prog 8 [.c (.view (vw qa bs))] fun res ha=>∃(xs:List Int),xs.length=12/\(∀x∈xs,0<=x/\x<10000)/\res= .o 0/\ha=[⟨3,1,vw aj xs⟩]:=by
 have cn:=oW bs hl
 have cb:=fun(i h n:Int)(hi:0<=i)=>ml bs hl i h n hi
 obtain⟨V,hV⟩:=nmE (vw qa bs)
 simp only [<-hV]at cn cb⊢
 refine ae (aP Tryz.f8) aC Tryz.func8 fun g F hg hF=> ?_
 cbv
 refine Be hg cn fun hv=> ?_
 cbv
 refine ir hg aC (by kernel_rfl) (fun s:(Int×List Int×LLA)×Int×Int=>[(3,.p 0),(4,.o 1),(5,.i (s.1.1))]) (fun s=>[.bx 73 3 (Cur V s.2.1 s.2.2),.rw ⟨3,1,s.1.2.2⟩]) (fun s=>0<=s.1.1/\s.1.1<=12/\(s.1.2.1.length:Int)=s.1.1/\s.1.2.2=vw aj s.1.2.1/\0<=s.2.1/\∀x∈s.1.2.1,0<=x/\x<10000) (fun s=>12-s.1.1.toNat)
  ((0,[],[]),0,hv) ⟨by simp,by simp,by simp,rfl,by simp,by simp⟩ (Wk.weak (wkG [some 0,some 1] zr3 ⟨wqE rfl rfl,wqE rfl rfl,trivial⟩ (by decide) aq)) (fun s B hs hB=> ?_)
 obtain⟨⟨z,xs,eX⟩,i,h⟩:=s
 obtain⟨h0,h1,h2,h3,h4,h5⟩:=hs
 dsimp only at h0 h1 h2 h3 h4 h5
 have hb:eX.length<=1048576:=by rw [h3,ak];omega
 have pX:=pmV h3
 have ez:g .w .add .i64 z 1=z+1:=by rw [aJ hg];exact wr1 (by omega) (by omega)
 have hd:∀f,((xs++[f]).length:Int)=z+1:=fun f=>by simp;omega
 have hj:¬z<12->xs.length=12:=fun h=>by omega
 have tz:g .q .lss z 12=decide (z<12):=bD hg _ _
 cbv
 rw [tz]
 by_cases hzx:z<12
 ·rw [zqu hzx]
  cbv
  refine oI hg 0 (cb _ _ _ h4) rfl rfl fun i2 k2 res hc hq=> ?_
  obtain⟨x,rfl,he,hf,_⟩:=hq
  have hh:=hf (by decide)
  have aX:eX++[[.J x]]=vw aj (xs++[x]):=by rw [xt,h3];rfl
  cbv
  refine fH hg rfl (by decide) hb ?_
  cbv
  rw [ez,jt hg]
  subst hB
  exact⟨((z+1,xs++[x],_),i2,k2),⟨by simp only;omega,by simp only;omega,hd _,aX,hc,fun y hy=>by
   rcases List.mem_append.1 hy with hy|hy
   ·exact h5 y hy
   ·rw [List.mem_singleton.1 hy];exact⟨he,hh⟩⟩,by simp only;omega,Wk.weak (wkG [some 0,some 3] zr3 ⟨wqE rfl rfl,⟨_,_,rfl,rfl,rfl,rfl,.inl ⟨rfl,aX.symm▸aF _ _⟩⟩,trivial⟩ (by decide) aq)⟩
 ·rw [zqt hzx]
  cbv
  exact DV ⟨3,1,eX⟩ hF rfl pX ⟨xs,hj hzx,h5,rfl,by rw [h3]⟩
variable {P:Program}
theorem um{H:Type}{enc:TypeId×Value->H}{w:World}{r:Reach}{b0:Nat}{na:Bool}{T te:TypeId}{v:Value}{d:DataW H}{p:List MemPlace}
  (hl:laidOutB P=true) (hu:P.underlying te=some (.int .u8)) (hlt:te<P.types.size) (ht:P.underlying T=some (.slice te))
  (hft:r8 P 5 te=some [te]) (hC:P.cellsOf te=1) (h:DataW.Trod enc P w 0 (fun _=>true) na T v d p) (hv:Value.okWide P w r b0 T v):
  ∃xs:List Int,BG 1 qa w v xs:=by
 obtain⟨a0,n0,c0,rfl⟩:=okWide_slice ht hv
 obtain⟨hk,hf⟩:=h
 rcases Go.Deep.open_slice ht hf with⟨hcs,_⟩|⟨a,len,cap,m,n,D,Pl,hcs,hba,hlc,hm,hmm,hx,hel⟩
 ·simp [Value.cells]at hcs
  obtain⟨rfl,rfl,rfl⟩:=hcs
  exact⟨[],none,0,rfl,by simp,by simp,by simp⟩
 ·simp [Value.cells]at hcs
  obtain⟨rfl,rfl,rfl⟩:=hcs
  have hz:∀i,i<n0->∃x:Int,a.spot=none/\w.cell? ⟨a.block,a.off+i,none⟩=some (.int .u8 x):=by
   intro i hj
   obtain⟨hA,hc,hw⟩:=hel i (by rw [hmm];simp;omega)
   rw [hC]at hc
   obtain⟨_,hE,hp⟩:=World.cells?_some hc
   have h1:=ly hl 5 te _ n _ _ hlt hft hw
   obtain⟨c,f',y,hq,hy⟩:=h1.2 0 te rfl
   obtain⟨k,h2,_,_⟩:=DataW.trod_int hu hy
   simp only [List.cons.injEq,and_true]at h2
   subst h2
   have ha:=hp 0 (by omega)
   rw [hq]at ha
   have hd:a.spot=none:=by
    obtain⟨hB,hb,hh⟩:=hel 0 (by rw [hmm];simp;omega)
    rw [hC]at hb
    obtain⟨_,hG,he⟩:=World.cells?_some hb
    have ho:=ly hl 5 te _ n _ _ hlt hft hh
    obtain⟨c',hD,y',hg,_⟩:=ho.2 0 te rfl
    have h4:=he 0 (by omega)
    rw [hg]at h4
    have h5:=qo h4
    simpa [Addr.add]using h5
   refine⟨k,hd,?_⟩
   have:=yH a hd (i*1) 0
   simp only [Nat.mul_one,Nat.add_zero]at this
   rw [<-this]
   simpa using ha
  obtain⟨f,hi⟩:∃f:Nat->Int,∀i,i<n0->a.spot=none/\w.cell? ⟨a.block,a.off+i,none⟩=some (.int .u8 (f i)):=Go.Deep.choose_lt hz
  refine⟨(List.range n0).map f,some a,c0,by simp,by simpa using hlc,hm,fun h0=> ?_⟩
  have hn:0<n0:=by simpa using h0
  obtain⟨hd,_⟩:=hi 0 hn
  refine⟨a.block,a.off,by obtain⟨b,o,s⟩:=a;simp only at hd;subst hd;rfl,fun i hj j hF=> ?_⟩
  have hr:i<n0:=by simpa using hj
  obtain⟨_,h3⟩:=hi i hr
  have hs:j=0:=by omega
  subst hs
  exact⟨.int .u8 (f i),by simp,by simpa using h3⟩
section
variable {P:Program}{n0 N:Nat}{g:Gd}
end
theorem ut(bs:List Int):PC0 7 [.c (.view (vw qa bs))] (.t (abl (decide (1048576<(bs.length:Int))))):=by
 obtain⟨V,hV⟩:=nmE (vw qa bs)
 obtain⟨q,hq⟩:=nmE (decide (1048576<(bs.length:Int)))
 have ha:aD V=(bs.length:Int):=by rw [hV,az,ak]
 rw [<-hV,<-hq]
 rw [<-ha]at hq
 refine ae (aP Tryz.f7) aC Tryz.func7 fun g F hg hF=> ?_
 cbv
 exact aY hF (by rw [dr hg,bH hg,hq])
theorem we{f:FuncId}{args:List AT}{T:LLA}{C:Int}(hc:Bj P f args fun lo res ha=>(∃b0,res= .tup [.agg [.fv b0 T],ai C]/\jO lo b0)/\fj res=true/\ha=[]):du P f args fun res ha=>res= .tup [.agg [.view T],ai C]/\ha=[]:=by
 have h0:=hc 0
 refine⟨h0.1,fun F w m vs hH hl hx=>(h0.2 F w m vs hH hl hx).mono fun e w'⟨v,res,h',m',F',he,hp,hG,hs,hv⟩=> ?_⟩
 obtain⟨ha,hh,⟨b0,hr,-⟩,-,hw⟩:=hp
 subst hr hw
 refine⟨v,.tup [.agg [.view T],ai C],h',m',F',he,⟨[],hh,rfl,rfl⟩,hG,hs,?_⟩
 obtain⟨us,h1,h2,h3⟩:=hv
 refine⟨us,h1,h2,fun j x hj=> ?_⟩
 match j,hj with
 |0,hj=>
  obtain⟨u,hu,hb,g1,g2,g3⟩:=h3 0 _ rfl
  obtain rfl:AT.agg [.view T]=x:=by simpa using hj
  refine⟨u,hu,hb,g1,g2,fun i c hi=> ?_⟩
  match i,hi with
  |0,hi=>
   obtain⟨u',k1,k2,k3⟩:=g3 0 _ rfl
   obtain rfl:AC.view T=c:=by simpa using hi
   exact⟨u',k1,k2,SP.rp k3⟩
  |i+1,hi=>simp at hi
 |1,hj=>
  obtain⟨u,hu,hr⟩:=h3 1 _ rfl
  obtain rfl:ai C=x:=by simpa using hj
  exact⟨u,hu,hr⟩
 |j+2,hj=>simp at hj
theorem sT{f:FuncId}{xs:List AT}{Post:AV->List AB->Prop}(hc:du P f (.agg [.view []]::xs) Post):du P f (.agg [.N]::xs) Post:=
 ⟨hc.1,fun F w m vs hH hl hx=>hc.2 F w m vs hH (by simpa using hl) fun j x hj=>by
  match j,hj with
  |0,hj=>
   obtain⟨v,hv,us,g1,g2,g3⟩:=hx 0 _ rfl
   obtain rfl:AT.agg [.view []]=x:=by simpa using hj
   refine⟨v,hv,us,g1,g2,fun i c hi=> ?_⟩
   match i,hi with
   |0,hi=>
    obtain⟨u,k1,k2,k3⟩:=g3 0 _ rfl
    obtain rfl:AC.view []=c:=by simpa using hi
    exact⟨u,k1,k2,none,0,k3,Nat.le_refl _,Nat.zero_le _,.inl rfl⟩
   |i+1,hi=>simp at hi
  |j+1,hj=>exact hx (j+1) x hj⟩
theorem eB(ns:List af)(hl:ns.length<=1048576)(hs:∀y∈ns,af.small y)(s:ah):PC0 10 [.agg [.view (vwA af.ac ns)],.agg (lc (ah.c s))] (.tup [.agg [.view (vwA af.ac (jN ns s))],ai (nv ns s)]):=
 we (nL ns hl hs s)
theorem gQ(ns:List af)(hl:ns.length<=1048576)(hs:∀y∈ns,af.small y)(n kid p:Int):PC0 12 [.agg [.view (vwA af.ac ns)],ai n,ai kid,ai p] (.tup [.agg [.view (vwA af.ac (inN ns n kid p))],ai (inI ns n kid p)]):=
 we (lF ns hl hs n kid p)
theorem iz(ns:List af)(hl:ns.length<=1048576)(hs:∀y∈ns,af.small y)(n a b c d:Int)(rtl:Bool):PC0 13 [.agg [.view (vwA af.ac ns)],ai n,agP ⟨a,b⟩,agP ⟨c,d⟩,abl rtl] (.t (.agg (lQ.ac (sbO ns n ⟨a,b⟩ ⟨c,d⟩ rtl)))):=
 qH (m6 ns hl hs n a b c d rtl) (yP (c:=aG.c) (k:=5) fun _=>rfl) qm
theorem kF(bs:List Int)(hl:bs.length<=1048576):du prog 8 [.c (.view (vw qa bs))] fun res ha=>(∃(xs:List Int),xs.length=12/\(∀x∈xs,0<=x/\x<10000)/\res= .t (.c (.view (vw aj xs))))/\ha=[]:=
 mI (kI bs hl) fun res ha⟨xs,h1,h2,e1,e2⟩=>by
  subst e1 e2
  exact⟨.t (.c (.view (vw aj xs))),[],bO (sl1 0 _) (kL rfl (yP (c:=aj) (k:=1) fun _=>rfl) qm) (Wk.weak (wkG [] zr1 trivial (by decide) aq)),⟨xs,h1,h2,rfl⟩,rfl⟩
theorem mo:PC0 17 [] (.t (.agg (lc (ah.c DP)))):=by
 refine ae (aP f17) aC func17 fun g F hg hF=> ?_
 cbv
 exact ql hF rfl ⟨rfl,rfl⟩
theorem fN:PC0 9 [] (.t (.agg (lc (ah.c mH)))):=by
 have c0:=mo
 refine ae (aP Tryz.f9) aC Tryz.func9 fun g F hg hF=> ?_
 cbv
 repeat'((first|refine ad hg c0 ?_|refine aa hg c0 ?_);cbv)
 exact ql hF rfl ⟨rfl,rfl⟩
theorem ix(n:Int):PC0 11 [ai n] (.t (.agg [.J 1,.J n])):=by
 refine ae (aP f11) aC func11 fun g F hg hF=> ?_
 cbv
 exact ql hF rfl ⟨rfl,rfl⟩
def aK(s:ah):af:=⟨1,[],s,false,⟨[]⟩⟩
def av(s:ah)(ks:List Int):af:=⟨0,ks,s,false,⟨[]⟩⟩
theorem bv{ns:List af}{n:Int}{x:af}(h:gP x.style=true)(hr:(rng (kC ns n) 1 4&&(sB ns n x.up&&(x.kids.all (dz ns n)&&BS x)))=true):aR ns n x=true:=by
 unfold aR
 rw [h,hr]
 rfl
theorem Cm{s0:ah}(h0:gP s0=true):aM [av s0 []]=true:=by
 have e:goT [av s0 []] [av s0 []] 0=((aR [av s0 []] 1 (av s0 [])&&true)):=rfl
 unfold aM
 rw [e,bv (ns:=[av s0 []]) (n:=1) (x:=av s0 []) h0 (by kernel_rfl)]
 rfl
theorem s8{s0 s1:ah}(h0:gP s0=true)(h1:gP s1=true):aM [av s0 [2],aK s1]=true:=by
 have e:goT [av s0 [2],aK s1] [av s0 [2],aK s1] 0=((aR [av s0 [2],aK s1] 1 (av s0 [2])&&(aR [av s0 [2],aK s1] 2 (aK s1)&&true))):=rfl
 unfold aM
 rw [e,bv (ns:=[av s0 [2],aK s1]) (n:=1) (x:=av s0 [2]) h0 (by kernel_rfl),bv (ns:=[av s0 [2],aK s1]) (n:=2) (x:=aK s1) h1 (by kernel_rfl)]
 rfl
theorem s7{s0 s1 s2:ah}(h0:gP s0=true)(h1:gP s1=true)(h2:gP s2=true):aM [av s0 [2,3],aK s1,aK s2]=true:=by
 have e:goT [av s0 [2,3],aK s1,aK s2] [av s0 [2,3],aK s1,aK s2] 0=((aR [av s0 [2,3],aK s1,aK s2] 1 (av s0 [2,3])&&(aR [av s0 [2,3],aK s1,aK s2] 2 (aK s1)&&(aR [av s0 [2,3],aK s1,aK s2] 3 (aK s2)&&true)))):=rfl
 unfold aM
 rw [e,bv (ns:=[av s0 [2,3],aK s1,aK s2]) (n:=1) (x:=av s0 [2,3]) h0 (by kernel_rfl),bv (ns:=[av s0 [2,3],aK s1,aK s2]) (n:=2) (x:=aK s1) h1 (by kernel_rfl),bv (ns:=[av s0 [2,3],aK s1,aK s2]) (n:=3) (x:=aK s2) h2 (by kernel_rfl)]
 rfl
theorem wv{s0 s1 s2 s3:ah}(h0:gP s0=true)(h1:gP s1=true)(h2:gP s2=true)(h3:gP s3=true):aM [av s0 [2,3,4],aK s1,aK s2,aK s3]=true:=by
 have e:goT [av s0 [2,3,4],aK s1,aK s2,aK s3] [av s0 [2,3,4],aK s1,aK s2,aK s3] 0=((aR [av s0 [2,3,4],aK s1,aK s2,aK s3] 1 (av s0 [2,3,4])&&(aR [av s0 [2,3,4],aK s1,aK s2,aK s3] 2 (aK s1)&&(aR [av s0 [2,3,4],aK s1,aK s2,aK s3] 3 (aK s2)&&(aR [av s0 [2,3,4],aK s1,aK s2,aK s3] 4 (aK s3)&&true))))):=rfl
 unfold aM
 rw [e,bv (ns:=[av s0 [2,3,4],aK s1,aK s2,aK s3]) (n:=1) (x:=av s0 [2,3,4]) h0 (by kernel_rfl),bv (ns:=[av s0 [2,3,4],aK s1,aK s2,aK s3]) (n:=2) (x:=aK s1) h1 (by kernel_rfl),bv (ns:=[av s0 [2,3,4],aK s1,aK s2,aK s3]) (n:=3) (x:=aK s2) h2 (by kernel_rfl),bv (ns:=[av s0 [2,3,4],aK s1,aK s2,aK s3]) (n:=4) (x:=aK s3) h3 (by kernel_rfl)]
 rfl
theorem C8{s0 s1:ah}(h0:gP s0=true)(h1:gP s1=true):uN [av s0 []] s1 0=[av s0 [2],aK s1]:=by
 have t0:aM [av s0 []]=true:=Cm h0
 have t1:aM [av s0 [],fM s1]=true:=by
  have e:goT [av s0 [],fM s1] [av s0 [],fM s1] 0=((aR [av s0 [],fM s1] 1 (av s0 [])&&(aR [av s0 [],fM s1] 2 (fM s1)&&true))):=rfl
  unfold aM
  rw [e,bv (ns:=[av s0 [],fM s1]) (n:=1) (x:=(av s0 [])) h0 (by kernel_rfl),bv (ns:=[av s0 [],fM s1]) (n:=2) (x:=(fM s1)) h1 (by kernel_rfl)]
  rfl
 have a0:jN [av s0 []] s1=[av s0 [],fM s1]:=by
  unfold jN rr
  rw [t0,h1]
  rfl
 have a1:nv [av s0 []] s1=2:=by
  unfold nv rr
  rw [t0,h1]
  rfl
 have e2:inT [av s0 [],fM s1] 1 2 0=[av s0 [2],aK s1]:=rfl
 have t2:aM [av s0 [2],aK s1]=true:=s8 h0 h1
 have i0:inI [av s0 [],fM s1] 1 2 0=0:=by
  unfold inI inO
  rw [t1,e2,t2]
  rfl
 unfold uN
 rw [a0,a1]
 unfold inN
 rw [i0,e2]
 rfl
theorem C7{s0 s1 s2:ah}(h0:gP s0=true)(h1:gP s1=true)(h2:gP s2=true):uN [av s0 [2],aK s1] s2 1=[av s0 [2,3],aK s1,aK s2]:=by
 have t0:aM [av s0 [2],aK s1]=true:=s8 h0 h1
 have t1:aM [av s0 [2],aK s1,fM s2]=true:=by
  have e:goT [av s0 [2],aK s1,fM s2] [av s0 [2],aK s1,fM s2] 0=((aR [av s0 [2],aK s1,fM s2] 1 (av s0 [2])&&(aR [av s0 [2],aK s1,fM s2] 2 (aK s1)&&(aR [av s0 [2],aK s1,fM s2] 3 (fM s2)&&true)))):=rfl
  unfold aM
  rw [e,bv (ns:=[av s0 [2],aK s1,fM s2]) (n:=1) (x:=(av s0 [2])) h0 (by kernel_rfl),bv (ns:=[av s0 [2],aK s1,fM s2]) (n:=2) (x:=(aK s1)) h1 (by kernel_rfl),bv (ns:=[av s0 [2],aK s1,fM s2]) (n:=3) (x:=(fM s2)) h2 (by kernel_rfl)]
  rfl
 have a0:jN [av s0 [2],aK s1] s2=[av s0 [2],aK s1,fM s2]:=by
  unfold jN rr
  rw [t0,h2]
  rfl
 have a1:nv [av s0 [2],aK s1] s2=3:=by
  unfold nv rr
  rw [t0,h2]
  rfl
 have e2:inT [av s0 [2],aK s1,fM s2] 1 3 1=[av s0 [2,3],aK s1,aK s2]:=rfl
 have t2:aM [av s0 [2,3],aK s1,aK s2]=true:=s7 h0 h1 h2
 have i0:inI [av s0 [2],aK s1,fM s2] 1 3 1=0:=by
  unfold inI inO
  rw [t1,e2,t2]
  rfl
 unfold uN
 rw [a0,a1]
 unfold inN
 rw [i0,e2]
 rfl
theorem C6{s0 s1 s2 s3:ah}(h0:gP s0=true)(h1:gP s1=true)(h2:gP s2=true)(h3:gP s3=true):uN [av s0 [2,3],aK s1,aK s2] s3 2=[av s0 [2,3,4],aK s1,aK s2,aK s3]:=by
 have t0:aM [av s0 [2,3],aK s1,aK s2]=true:=s7 h0 h1 h2
 have t1:aM [av s0 [2,3],aK s1,aK s2,fM s3]=true:=by
  have e:goT [av s0 [2,3],aK s1,aK s2,fM s3] [av s0 [2,3],aK s1,aK s2,fM s3] 0=((aR [av s0 [2,3],aK s1,aK s2,fM s3] 1 (av s0 [2,3])&&(aR [av s0 [2,3],aK s1,aK s2,fM s3] 2 (aK s1)&&(aR [av s0 [2,3],aK s1,aK s2,fM s3] 3 (aK s2)&&(aR [av s0 [2,3],aK s1,aK s2,fM s3] 4 (fM s3)&&true))))):=rfl
  unfold aM
  rw [e,bv (ns:=[av s0 [2,3],aK s1,aK s2,fM s3]) (n:=1) (x:=(av s0 [2,3])) h0 (by kernel_rfl),bv (ns:=[av s0 [2,3],aK s1,aK s2,fM s3]) (n:=2) (x:=(aK s1)) h1 (by kernel_rfl),bv (ns:=[av s0 [2,3],aK s1,aK s2,fM s3]) (n:=3) (x:=(aK s2)) h2 (by kernel_rfl),bv (ns:=[av s0 [2,3],aK s1,aK s2,fM s3]) (n:=4) (x:=(fM s3)) h3 (by kernel_rfl)]
  rfl
 have a0:jN [av s0 [2,3],aK s1,aK s2] s3=[av s0 [2,3],aK s1,aK s2,fM s3]:=by
  unfold jN rr
  rw [t0,h3]
  rfl
 have a1:nv [av s0 [2,3],aK s1,aK s2] s3=4:=by
  unfold nv rr
  rw [t0,h3]
  rfl
 have e2:inT [av s0 [2,3],aK s1,aK s2,fM s3] 1 4 2=[av s0 [2,3,4],aK s1,aK s2,aK s3]:=rfl
 have t2:aM [av s0 [2,3,4],aK s1,aK s2,aK s3]=true:=wv h0 h1 h2 h3
 have i0:inI [av s0 [2,3],aK s1,aK s2,fM s3] 1 4 2=0:=by
  unfold inI inO
  rw [t1,e2,t2]
  rfl
 unfold uN
 rw [a0,a1]
 unfold inN
 rw [i0,e2]
 rfl
theorem C5{s0:ah}(h0:gP s0=true):jN [] s0=[av s0 []]:=by
 unfold jN rr
 rw [show aM []=true from rfl,h0]
 rfl
def TR(f:aG):aG:=⟨f.node,f.y,f.x,f.high,f.wide⟩
structure SdE(x y:ao):Prop where
 size:x.size=y.size
 before:x.before=y.before
 behind:x.behind=y.behind
 aB:x.autoBefore=y.autoBefore
 aE:x.autoBehind=y.autoBehind
 al:x.align=y.align
 n5:x.align≠5
 ok:vy x=vy y
theorem SdE.plc{x y:ao}(h:SdE x y)(c b b':Int):Ad x c b=Ad y c b':=by
 obtain⟨h1,h2,h3,h4,h5,h6,h7,h8⟩:=h
 unfold Ad
 rw [h8,h1,h2,h3,h4,h5]
 rw [h6]at h7
 rw [h6]
 simp only [h7,if_false]
variable {S S':List ao}
theorem yZ(hl:S.length=S'.length)(h:∀(i:Nat)(x y:ao),S[i]? =some x->S'[i]? =some y->SdE x y)(i:Int):SdE (sdZ S i) (sdZ S' i):=by
 have d:SdE (⟨0,0,0,false,false,0,0⟩:ao) ⟨0,0,0,false,false,0,0⟩:=⟨rfl,rfl,rfl,rfl,rfl,rfl,by decide,rfl⟩
 unfold sdZ
 split
 ·by_cases hi:i.toNat<S.length
  ·rw [zqc hi,zqc (hl▸hi)]
   exact h _ _ _ (zqc hi) (zqc (hl▸hi))
  ·rw [zqz (by omega),zqz (by omega)]
   exact d
 ·exact d
structure Bm(p q:Pl):Prop where
 prow:p.row=true
 qrow:q.row=false
 kids:p.kids=q.kids
 al:p.al=q.al
 ac:p.ac=q.ac
 w:p.w=q.h
 h:p.h=q.w
 wr:p.s.wrap=1
 wr':q.s.wrap=1
 js:p.s.justify=q.s.justify
 ct:p.s.content=q.s.content
 gA:zm p=zm q
 gC:uU p=uU q
 mB:j8 p.s false=j8 q.s false
 cB:kx p.s false=kx q.s false
 fp:lx p.s=⟨0,0,0,0⟩
 fq:lx q.s=⟨0,0,0,0⟩
theorem wD{p q:Pl}(h:Bm p q)(inner across:Int)(sizes:List Int){S S':List ao}(hS:∀i,SdE (sdZ S i) (sdZ S' i))(st c lb lb':Int)(ps:List Int):∀(j:Int)(ln:List Int),
  (ro p false inner across sizes S st c lb ps j ln).map TR=ro q false inner across sizes S' st c lb' ps j ln
 |_,[]=>rfl
 |j,i::r=>by
  unfold ro
  rw [zqA,wD h inner across sizes hS st c lb lb' ps (j+1) r]
  refine congrArg (·::_) ?_
  unfold CE TR
  simp only [h.prow,h.qrow,if_true,Bool.false_eq_true,if_false]
  rw [h.mB,h.cB,h.fp,h.fq,(hS i).plc c lb lb',(hS i).size,h.kids]
theorem wC{p q:Pl}(h:Bm p q)(items:List ag)(inner across:Int)(sizes:List Int){S S':List ao}(hS:∀i,SdE (sdZ S i) (sdZ S' i))(sts:List Int):∀(k:Int)(ls:List (List Int×Int)),
  (ux p false items inner across sizes S sts k ls).map TR=ux q false items inner across sizes S' sts k ls
 |_,[]=>rfl
 |k,(ln,c)::r=>by
  unfold ux
  rw [List.map_append,wC h items inner across sizes hS sts (k+1) r,wD h inner across sizes hS _ _ _ (bas (pck S' ln))]
  unfold De
  rw [h.gA,h.js]
variable {ns ns':List af}
theorem CG{p q:Pl}(h:Bm p q){its:List ag}
  (hF:∀i,SdE (sdZ (rq p ns S (mj p its) ((mO p its).zip (uW p (mO p its) S))) i) (sdZ (rq q ns' S' (mj p its) ((mO p its).zip (uW p (mO p its) S))) i)) (hc:p.ac.mode=3):
  (xp p false ns its S).frames.map TR=(xp q false ns' its S').frames/\(xp p false ns its S).wide=(xp q false ns' its S').high/\(xp p false ns its S).high=(xp q false ns' its S').wide:=by
 have e1:mO q its=mO p its:=by unfold mO wrP;rw [h.gA,h.al,h.wr,h.wr']
 have e2:yi q its=yi p its:=by unfold yi wrP;rw [h.gA,h.al,h.wr,h.wr']
 have e3:mj q its=mj p its:=by unfold mj;rw [e2];unfold wrP;rw [h.gA,h.al,h.wr,h.wr']
 have c0:∀(ls:List (List Int)),ls.map (CQ p S)=ls.map (CQ q S'):=fun ls=>List.map_congr_left fun l _=>by
  unfold CQ
  rw [if_pos ⟨h.wr,hc⟩,if_pos ⟨h.wr',h.ac▸hc⟩,h.ac]
 have e4:uW q (mO p its) S'=uW p (mO p its) S:=by
  unfold uW
  rw [if_neg (fun x=>x.1 h.wr'),if_neg (fun x=>x.1 h.wr),c0]
 have e5:∀cs,xq q cs=xq p cs:=fun cs=>by unfold xq;rw [h.gC,h.ac]
 have e6:∀cs,Bq q cs=Bq p cs:=fun cs=>by unfold Bq ctP;rw [e5,h.gC,if_pos h.wr,if_pos h.wr']
 unfold xp zE
 simp only [e1,e2,e3,e4,e5,e6,h.prow,h.qrow,if_true,Bool.false_eq_true,if_false,h.w,h.h,h.fp,h.fq]
 refine⟨?_,trivial,trivial⟩
 exact wC h its _ _ _ hF _ 0 _
def ic(d js it gp:Int):ah:={mH with dir:=d,justify:=js,items:=it,colGap:=gp,rowGap:=gp}
def d9(g s a b:Int):ah:={mH with grow:=g,shrink:=s,width:=⟨1,a⟩,height:=⟨1,b⟩}
theorem tM(n:Int):0<=cl n/\cl n<=1048576:=by unfold cl bro;split<;>(try split)<;>omega
theorem r9(g s a b:Int)(w:Bool)(n:Int):q8 (d9 g s a b) w n=cl (if w then a else b):=by
 cases w<;>rfl
theorem wG(g s a b:Int)(w:Bool)(n:Int):q8 (d9 g s a b) w n≠ -1:=by
 rw [r9]
 have:=tM (if w then a else b)
 omega
theorem kT(g s a b:Int)(w:Bool)(n:Int):Aj (d9 g s a b) w n=0/\Bu (d9 g s a b) w n= -1:=by
 cases w<;>exact⟨by kernel_rfl,by kernel_rfl⟩
theorem wY(g s a b:Int)(n m:Int):nD (d9 g s a b) true n m=cl (if m<0 then 0 else m)/\nD (d9 g s a b) false n m=cl (if m<0 then 0 else m):=by
 have h:∀w,nD (d9 g s a b) w n m=cl (lu m 0 (-1)):=fun w=>by unfold nD;rw [(kT ..).1,(kT ..).2]
 rw [h,h]
 unfold lu
 simp
theorem D0(n x:Int):tak ⟨3,n⟩ x=cl n:=by unfold tak;simp
structure DJ(p q:Pl)(ns ns':List af)(b b':Bv)(k:Int):Prop where
 e:∃g s a h,kst ns k=d9 g s a h/\kst ns' k=d9 g s h a
 l:∀w h,b k w h=ur (kst ns k) w h (0,0)
 l':∀w h,b' k w h=ur (kst ns' k) w h (0,0)
theorem Aw(p:Pl)(g s a b:Int):kcX p (d9 g s a b) false=⟨3,nD (d9 g s a b) (!p.row) (knS p.ac) (q8 (d9 g s a b) (!p.row) (knS p.ac))⟩:=by
 unfold kcX CP
 simp only [ne_eq,wG,not_false_eq_true,if_true]
theorem xn(p:Pl)(g s a b z:Int):Bi p (d9 g s a b) false z=⟨3,nD (d9 g s a b) (!p.row) (knS p.ac) (q8 (d9 g s a b) (!p.row) (knS p.ac))⟩:=by
 unfold Bi
 rw [Aw,if_neg (fun h=>h.1 rfl)]
theorem w8(b:Bv)(p:Pl)(ns:List af)(k:Int){g s a h:Int}(e:kst ns k=d9 g s a h):w9 b p false ns k=cl (if p.row then a else h):=by
 have h1:C0 p (d9 g s a h) false=cl (if p.row then a else h):=by
  unfold C0
  rw [show vx (d9 g s a h).basis (knS p.al)= -1 from rfl,if_neg (fun h=>h rfl),if_pos (wG g s a h p.row (knS p.al)),r9]
 have h2:cl (if p.row then a else h)≠ -1:=by
  have:=tM (if p.row then a else h)
  omega
 unfold w9
 rw [e,h1,if_pos h2]
theorem pb(p:Pl)(js it gp:Int)(d:Int)(hd:d=1\/d=2)(hp:p.s=ic d js it gp)(g s a b:Int)(m:Bool):t9 p (d9 g s a b) false m=⟨0,0,0,false,false,0,0⟩:=by
 unfold t9
 rw [hp]
 rcases hd with rfl|rfl<;>cases m<;>rfl
variable {js it gp:Int}{b b':Bv}{k:Int}
theorem Cq{p q:Pl}(h:Bm p q)(hp:p.s=ic 1 js it gp)(hq:q.s=ic 2 js it gp)(hk:DJ p q ns ns' b b' k):
  Cr p (kst ns k) false (w9 b p false ns k)=Cr q (kst ns' k) false (w9 b' q false ns' k):=by
 obtain⟨g,s,a,x,e,e'⟩:=hk.e
 rw [w8 b p ns k e,w8 b' q ns' k e',e,e',h.prow,h.qrow]
 unfold Cr
 rw [pb p js it gp 1 (.inl rfl) hp,pb q js it gp 2 (.inr rfl) hq,(kT ..).1,(kT ..).1,(kT ..).2,(kT ..).2]
 rfl
theorem BU{p q:Pl}(h:Bm p q)(hit:1<=it/\it<=4)(hp:p.s=ic 1 js it gp)(hq:q.s=ic 2 js it gp)(hk:DJ p q ns ns' b b' k)(z:Int):
  SdE (Br p (kst ns k) false (uY b p.row k ⟨3,z⟩ (Bi p (kst ns k) false z))) (Br q (kst ns' k) false (uY b' q.row k ⟨3,z⟩ (Bi q (kst ns' k) false z))):=by
 obtain⟨g,s,a,x,e,e'⟩:=hk.e
 unfold uY
 simp only [h.prow,h.qrow,if_true,Bool.false_eq_true,if_false,hk.l,hk.l']
 rw [e,e',xn,xn,h.prow,h.qrow]
 unfold Br ur
 rw [pb p js it gp 1 (.inl rfl) hp,pb q js it gp 2 (.inr rfl) hq,h.prow,h.qrow]
 simp only [D0,alB,Bool.not_true,Bool.not_false,if_true,if_false,r9,(wY ..).1,(wY ..).2,Bool.false_eq_true]
 have al:∀d,xk (ic d js it gp) (d9 g s a x)=it:=fun d=>by
  unfold xk
  rw [show(d9 g s a x).self=0 from rfl]
  simp only [if_true]
  rw [show(ic d js it gp).items=it from rfl,if_neg (by omega)]
 have ha:∀d,xk (ic d js it gp) (d9 g s x a)=it:=fun d=>by
  unfold xk
  rw [show(d9 g s x a).self=0 from rfl]
  simp only [if_true]
  rw [show(ic d js it gp).items=it from rfl,if_neg (by omega)]
 rw [hp,hq,al,ha]
 refine⟨rfl,rfl,rfl,rfl,rfl,rfl,by show it≠5;omega,?_⟩
 have hb:∀u v:Int,rng (rP (cl u) (cl v)) 0 1048576=true:=fun u v=>by
  have h1:=tM u
  have h2:=tM v
  unfold rP rng
  rw [zqs,zqp,zqp]
  split<;>omega
 unfold vy
 simp only [hb]
theorem q7(ls:List (List Int×Int))(f:Int->ao):(ls.flatMap fun q=>q.1.map f)=(ls.flatMap fun q=>q.1).map f:=by
 induction ls with
 |nil=>rfl
 |cons x r ih=>rw [List.flatMap_cons,List.flatMap_cons,List.map_append,ih]
theorem zp(p:Pl)(ns:List af)(zs:List Int)(f:Int×Int->ao)(hk:∀k∈p.kids,∃g s a h,kst ns k=d9 g s a h)(sizes:List Int)(c i:Int):
  wM p ns ((p.kids.zip zs).map f) sizes c i=sdZ ((p.kids.zip zs).map f) i:=by
 unfold wM
 refine if_neg fun hh=> ?_
 obtain⟨h1,h2,-⟩:=hh
 by_cases hi:0<=i/\i.toNat<p.kids.length
 ·obtain⟨g,s,a,x,e⟩:=hk (elZ p.kids i) (by
   unfold elZ
   rw [if_pos hi.1,zqc hi.2]
   exact List.getElem_mem _)
  rw [e]at h2
  exact wG _ _ _ _ _ _ h2
 ·have:sdZ ((p.kids.zip zs).map f) i=⟨0,0,0,false,false,0,0⟩:=by
   unfold sdZ
   split
   ·rw [zqz (by rw [zql,zqB];omega)];rfl
   ·rfl
  rw [this]at h1
  exact absurd h1 (by decide)
theorem D9{p q:Pl}(h:Bm p q)(hit:1<=it/\it<=4)(hp:p.s=ic 1 js it gp)(hq:q.s=ic 2 js it gp)(hk:∀k∈p.kids,DJ p q ns ns' b b' k)(hc:p.ac.mode=3):
  (uV b p false ns).frames.map TR=(uV b' q false ns').frames/\(uV b p false ns).wide=(uV b' q false ns').high/\(uV b p false ns).high=(uV b' q false ns').wide:=by
 have hi:uu b' q false ns' q.kids=uu b p false ns p.kids:=by
  rw [<-h.kids]
  exact(List.map_congr_left fun k hm=>Cq h hp hq (hk k hm)).symm
 have e3:∀ha,mj q ha=mj p ha:=fun ha=>by unfold mj yi wrP;rw [h.gA,h.al,h.wr,h.wr']
 unfold uV
 rw [hi,e3,<-h.kids]
 obtain⟨ha,he⟩:=nmE (uu b p false ns p.kids)
 rw [<-he]
 refine CG h (fun i=> ?_) hc
 have f1:∀ls sz,rq p ns (rE b p false ns (p.kids.zip (mj p ha))) sz ls=(ls.flatMap fun q=>q.1).map (sdZ (rE b p false ns (p.kids.zip (mj p ha)))):=fun ls sz=>by
  unfold rq
  rw [<-q7]
  refine congrArg (fun f=>List.flatMap f ls) (funext fun x=>List.map_congr_left fun j _=> ?_)
  exact zp p ns _ _ (fun k hm=>by obtain⟨g,s,a,x,e,-⟩:=(hk k hm).e;exact⟨g,s,a,x,e⟩) sz x.2 j
 have f2:∀ls sz,rq q ns' (rE b' q false ns' (p.kids.zip (mj p ha))) sz ls=(ls.flatMap fun q=>q.1).map (sdZ (rE b' q false ns' (p.kids.zip (mj p ha)))):=fun ls sz=>by
  unfold rq
  rw [<-q7]
  refine congrArg (fun f=>List.flatMap f ls) (funext fun x=>List.map_congr_left fun j _=> ?_)
  have:=zp q ns' (mj p ha) (fun r=>Br q (kst ns' r.1) false (uY b' q.row r.1 ⟨3,r.2⟩ (Bi q (kst ns' r.1) false r.2))) (fun k hm=>by obtain⟨g,s,a,x,-,e⟩:=(hk k (h.kids▸hm)).e;exact⟨g,s,x,a,e⟩) sz x.2 j
  rw [<-h.kids]at this
  exact this
 rw [f1,f2]
 obtain⟨hf,hd⟩:=nmE ((((mO p ha).zip (uW p (mO p ha) (rE b p false ns (p.kids.zip (mj p ha))))).flatMap fun q=>q.1))
 rw [<-hd]
 have hS:∀j,SdE (sdZ (rE b p false ns (p.kids.zip (mj p ha))) j) (sdZ (rE b' q false ns' (p.kids.zip (mj p ha))) j):=yZ (by simp [rE]) fun n x y hx hy=>by
  unfold rE at hx hy
  rw [zqi,zqj]at hx hy
  obtain⟨r,hr,rfl⟩:=hx
  obtain⟨r',hb,rfl⟩:=hy
  rw [hr]at hb
  cases hb
  have hm:=(List.of_mem_zip (zqd hr)).1
  exact BU h hit hp hq (hk r.1 hm) r.2
 refine yZ (by rw [zql,zql]) (fun n x y hx hy=> ?_) i
 rw [zqi,zqj]at hx hy
 obtain⟨r,hr,rfl⟩:=hx
 obtain⟨r',hb,rfl⟩:=hy
 rw [hr]at hb
 cases hb
 exact hS r
theorem tQ{ns:List af}(hm:(nod ns k).measured=false)(hf:flK ns k=[])(w h:aI):uX ns false 3 k w h=ur (kst ns k) w h (0,0):=by
 unfold uX Cg
 rw [hm,hf]
 rfl
theorem wX{ns:List af}(hm:(nod ns 1).measured=false)(hf:flK ns 1≠[])(w h:aI):uX ns false 4 1 w h=uV (uX ns false 3) (plO ns 1 w h) false ns:=by
 conv=>lhs;unfold uX Cg
 rw [hm,if_neg hf]
 rfl
theorem uz(b:Bv)(p:Pl)(ns:List af)(hn:p.kids.length<=12):(uV b p false ns).frames.length=p.kids.length:=by
 have hl:(uu b p false ns p.kids).length=p.kids.length:=by unfold uu;rw [zql]
 have h1:=pu (uu b p false ns p.kids) (zm p) (nB p.al) (wrP p)
 unfold uV xp zE
 dsimp only
 rw [pQ,List.map_fst_zip (by rw [tJ _ _ _ (by show(lns _ _ _ _).length<=64;omega)];exact Nat.le_refl _)]
 unfold mO
 rw [i7,dl,hl]
theorem Aq{js it gp A B:Int}(h1:kst ns 1=ic 1 js it gp)(h2:kst ns' 1=ic 2 js it gp)(hk:flK ns 1=flK ns' 1):Bm (plO ns 1 ⟨3,A⟩ ⟨3,B⟩) (plO ns' 1 ⟨3,B⟩ ⟨3,A⟩):=by
 unfold plO
 rw [h1,h2,hk]
 exact⟨rfl,rfl,rfl,by kernel_rfl,by kernel_rfl,rfl,rfl,rfl,rfl,rfl,rfl,rfl,rfl,rfl,rfl,by kernel_rfl,by kernel_rfl⟩
structure Col(x y:lQ)(n:Nat):Prop where
 len:x.frames.length=n
 tr:y.frames=x.frames.map TR
 wide:x.wide=y.high
 high:x.high=y.wide
theorem wS{js it gp A B:Int}{n:Nat}(hn:n<=12)(hn0:n≠0)(hit:1<=it/\it<=4)(hA:0<=A/\A<=1048576)(hB:0<=B/\B<=1048576)(ht:aM ns=true)(ht':aM ns'=true)(hl:1<=ns.length)(hl':1<=ns'.length)
  (hm:(nod ns 1).measured=false) (hm':(nod ns' 1).measured=false) (h1:kst ns 1=ic 1 js it gp) (h2:kst ns' 1=ic 2 js it gp) (hk:flK ns 1=flK ns' 1) (hfl:(flK ns 1).length=n)
  (hki:∀k∈flK ns 1,(∃g s a h,kst ns k=d9 g s a h/\kst ns' k=d9 g s h a)/\(nod ns k).measured=false/\(nod ns' k).measured=false/\flK ns k=[]/\flK ns' k=[]):
  Col (sbO ns 1 ⟨3,A⟩ ⟨3,B⟩ false) (sbO ns' 1 ⟨3,B⟩ ⟨3,A⟩ false) n:=by
 have o1:∀(m:List af)(C D:Int),aM m=true->1<=m.length->(0<=C/\C<=1048576)->(0<=D/\D<=1048576)->zd m 1 ⟨3,C⟩ ⟨3,D⟩=true:=fun m C D h h0 hC hD=>by
  unfold zd
  rw [h]
  have r1:rng 1 1 (m.length:Int)=true:=by unfold rng;rw [zqs,zqp,zqp];omega
  have r2:∀E:Int,(0<=E/\E<=1048576)->yX ⟨3,E⟩=true:=fun E hE=>by
   unfold yX rng
   simp
   omega
  rw [r1,r2 C hC,r2 D hD]
  rfl
 have ha:flK ns 1≠[]:=fun h=>by rw [h]at hfl;exact hn0 hfl.symm
 unfold sbO
 rw [o1 ns A B ht hl hA hB,o1 ns' B A ht' hl' hB hA,if_neg (by decide),if_neg (by decide),wX hm ha,wX hm' (hk▸ha)]
 have L:=Aq (A:=A) (B:=B) h1 h2 hk
 obtain⟨t1,t2,t3⟩:=D9 (b:=uX ns false 3) (b':=uX ns' false 3) L hit (js:=js) (gp:=gp) (by show kst ns 1=_;exact h1) (by show kst ns' 1=_;exact h2) (fun k hb=>by
  obtain⟨e,m1,m2,f1,f2⟩:=hki k hb
  exact⟨e,fun w h=>tQ m1 f1 w h,fun w h=>tQ m2 f2 w h⟩) (by
  unfold plO
  rw [h1]
  rfl)
 exact⟨by rw [uz _ _ _ (by show(flK ns 1).length<=12;omega)];exact hfl,t1.symm,t2,t3⟩
theorem Ed{js it gp A B g0 s0 a0 b0:Int}(hit:1<=it/\it<=4)(hA:0<=A/\A<=1048576)(hB:0<=B/\B<=1048576)(ht:aM [av (ic 1 js it gp) [2],aK (d9 g0 s0 a0 b0)]=true)(ht':aM [av (ic 2 js it gp) [2],aK (d9 g0 s0 b0 a0)]=true):
  Col (sbO [av (ic 1 js it gp) [2],aK (d9 g0 s0 a0 b0)] 1 ⟨3,A⟩ ⟨3,B⟩ false) (sbO [av (ic 2 js it gp) [2],aK (d9 g0 s0 b0 a0)] 1 ⟨3,B⟩ ⟨3,A⟩ false) 1:=
 wS (js:=js) (it:=it) (gp:=gp) (by decide) (by decide) hit hA hB ht ht' (by simp) (by simp) rfl rfl rfl rfl rfl rfl (fun k hk=>by
  have ha:k∈([2]:List Int):=hk
  simp only [List.mem_cons,List.not_mem_nil,or_false]at ha
  rcases ha with rfl
  all_goals exact⟨⟨_,_,_,_,rfl,rfl⟩,rfl,rfl,rfl,rfl⟩)
theorem Ec{js it gp A B g0 s0 a0 b0 g1 s1 a1 b1:Int}(hit:1<=it/\it<=4)(hA:0<=A/\A<=1048576)(hB:0<=B/\B<=1048576)(ht:aM [av (ic 1 js it gp) [2,3],aK (d9 g0 s0 a0 b0),aK (d9 g1 s1 a1 b1)]=true)(ht':aM [av (ic 2 js it gp) [2,3],aK (d9 g0 s0 b0 a0),aK (d9 g1 s1 b1 a1)]=true):
  Col (sbO [av (ic 1 js it gp) [2,3],aK (d9 g0 s0 a0 b0),aK (d9 g1 s1 a1 b1)] 1 ⟨3,A⟩ ⟨3,B⟩ false) (sbO [av (ic 2 js it gp) [2,3],aK (d9 g0 s0 b0 a0),aK (d9 g1 s1 b1 a1)] 1 ⟨3,B⟩ ⟨3,A⟩ false) 2:=
 wS (js:=js) (it:=it) (gp:=gp) (by decide) (by decide) hit hA hB ht ht' (by simp) (by simp) rfl rfl rfl rfl rfl rfl (fun k hk=>by
  have ha:k∈([2,3]:List Int):=hk
  simp only [List.mem_cons,List.not_mem_nil,or_false]at ha
  rcases ha with rfl|rfl
  all_goals exact⟨⟨_,_,_,_,rfl,rfl⟩,rfl,rfl,rfl,rfl⟩)
theorem Eb{js it gp A B g0 s0 a0 b0 g1 s1 a1 b1 g2 s2 a2 b2:Int}(hit:1<=it/\it<=4)(hA:0<=A/\A<=1048576)(hB:0<=B/\B<=1048576)(ht:aM [av (ic 1 js it gp) [2,3,4],aK (d9 g0 s0 a0 b0),aK (d9 g1 s1 a1 b1),aK (d9 g2 s2 a2 b2)]=true)(ht':aM [av (ic 2 js it gp) [2,3,4],aK (d9 g0 s0 b0 a0),aK (d9 g1 s1 b1 a1),aK (d9 g2 s2 b2 a2)]=true):
  Col (sbO [av (ic 1 js it gp) [2,3,4],aK (d9 g0 s0 a0 b0),aK (d9 g1 s1 a1 b1),aK (d9 g2 s2 a2 b2)] 1 ⟨3,A⟩ ⟨3,B⟩ false) (sbO [av (ic 2 js it gp) [2,3,4],aK (d9 g0 s0 b0 a0),aK (d9 g1 s1 b1 a1),aK (d9 g2 s2 b2 a2)] 1 ⟨3,B⟩ ⟨3,A⟩ false) 3:=
 wS (js:=js) (it:=it) (gp:=gp) (by decide) (by decide) hit hA hB ht ht' (by simp) (by simp) rfl rfl rfl rfl rfl rfl (fun k hk=>by
  have ha:k∈([2,3,4]:List Int):=hk
  simp only [List.mem_cons,List.not_mem_nil,or_false]at ha
  rcases ha with rfl|rfl|rfl
  all_goals exact⟨⟨_,_,_,_,rfl,rfl⟩,rfl,rfl,rfl,rfl⟩)
theorem rH{n l m:Int}(h:l<=n/\n<=m):rng n l m=true:=by unfold rng;rw [zqs,zqp,zqp];exact h
theorem z8{d js it gp:Int}(hd:d=1\/d=2)(h1:1<=js/\js<=6)(h2:1<=it/\it<=4)(h3:0<=gp/\gp<=1000):gP (ic d js it gp)=true:=by
 have e:stN (ic d js it gp)=(rng d 1 4&&(rng 1 1 3&&(rng js 1 6&&(rng it 1 5&&(rng 0 0 5&&(rng 2 1 6&&(rng 0 (-1000) 1000&&(rng 0 0 1000&&(rng 0 0 1000&&(rng 0 0 6400&&(rng gp 0 1048576&&rng gp 0 1048576))))))))))):=rfl
 unfold gP
 rw [e,rH (n:=d) (by omega),rH h1,rH (n:=it) (by omega),rH (n:=gp) (by omega)]
 rfl
theorem yJ{x:Int}(h:0<=x/\x<=1048576):zOk ⟨1,x⟩=true:=by
 have e:zOk ⟨1,x⟩=(rng x (-1048576) 1048576&&decide (0<=x)):=rfl
 rw [e,rH (by omega),zqu h.1]
 rfl
theorem Au{g s a b:Int}(h1:0<=g/\g<=1000)(h2:0<=s/\s<=1000)(h3:0<=a/\a<=1048576)(h4:0<=b/\b<=1048576):gP (d9 g s a b)=true:=by
 have e:stN (d9 g s a b)=(rng 1 1 4&&(rng 1 1 3&&(rng 1 1 6&&(rng 1 1 5&&(rng 0 0 5&&(rng 2 1 6&&(rng 0 (-1000) 1000&&(rng g 0 1000&&(rng s 0 1000&&(rng 0 0 6400&&(rng 0 0 1048576&&rng 0 0 1048576))))))))))):=rfl
 have e2:(stV (d9 g s a b)).all zOk=(zOk ⟨0,0⟩&&(zOk ⟨1,a⟩&&(zOk ⟨1,b⟩&&(zOk ⟨0,0⟩&&(zOk ⟨0,0⟩&&(zOk ⟨0,0⟩&&(zOk ⟨0,0⟩&&true))))))):=rfl
 unfold gP
 rw [e,e2,rH h1,rH h2,yJ h3,yJ h4]
 rfl
def plc(ps:List Int)(i:Nat):Int:=(ps[i]?).getD 0
def fI(ps:List Int)(k:Int)(i:Nat):ah:=if k=1 then d9 ((plc ps (i+4)).tmod 3) ((plc ps (i+4)).tmod 2) ((plc ps (i+2)).tmod 90) ((plc ps (i+1)).tmod 300)else d9 ((plc ps (i+4)).tmod 3) ((plc ps (i+4)).tmod 2) ((plc ps (i+1)).tmod 300) ((plc ps (i+2)).tmod 90)
def ma(ps:List Int)(k:Int):ah:=ic (if k=1 then 2 else 1) (1+(plc ps 0).tmod 6) (1+(plc ps 1).tmod 4) ((plc ps 2).tmod 20)
def fA(ps:List Int)(k:Int)(i:Nat):List af:=xl (fI ps k) (jN [] (ma ps k)) i
variable {ps:List Int}
theorem gR(hp:∀x∈ps,0<=x/\x<10000)(i:Nat){m:Int}(hm:0<m):0<=(plc ps i).tmod m/\(plc ps i).tmod m<m:=by
 have h:0<=plc ps i:=by
  unfold plc
  cases h:ps[i]? with
  |none=>exact Int.le_refl 0
  |some x=>exact(hp x (zqd h)).1
 exact⟨Int.tmod_nonneg m h,Int.tmod_lt_of_pos _ hm⟩
theorem wT(hp:∀x∈ps,0<=x/\x<10000)(k:Int):gP (ma ps k)=true:=by
 have a:=gR hp 0 (m:=6) (by decide)
 have b:=gR hp 1 (m:=4) (by decide)
 have c:=gR hp 2 (m:=20) (by decide)
 exact z8 (by split<;>simp) (by omega) (by omega) (by omega)
theorem lk(hp:∀x∈ps,0<=x/\x<10000)(k:Int)(i:Nat):gP (fI ps k i)=true:=by
 have a:=gR hp (i+4) (m:=3) (by decide)
 have b:=gR hp (i+4) (m:=2) (by decide)
 have c:=gR hp (i+1) (m:=300) (by decide)
 have d:=gR hp (i+2) (m:=90) (by decide)
 unfold fI
 split<;>exact Au (by omega) (by omega) (by omega) (by omega)
theorem AZ(hp:∀x∈ps,0<=x/\x<10000){n:Nat}(hn:n=1\/n=2\/n=3){A B:Int}(hA:0<=A/\A<=1048576)(hB:0<=B/\B<=1048576):
  Col (sbO (fA ps 0 n) 1 ⟨3,A⟩ ⟨3,B⟩ false) (sbO (fA ps 1 n) 1 ⟨3,B⟩ ⟨3,A⟩ false) n:=by
 have b:=gR hp 1 (m:=4) (by decide)
 have s0:=wT hp 0
 have s1:=wT hp 1
 have ha:=lk hp 0 0
 have hc:=lk hp 0 1
 have hi:=lk hp 0 2
 have hb:=lk hp 1 0
 have hd:=lk hp 1 1
 have hj:=lk hp 1 2
 have he:fA ps 0 1=[av (ma ps 0) [2],aK (fI ps 0 0)]:=by
  show uN (jN [] (ma ps 0)) (fI ps 0 0) 0=_
  rw [C5 s0,C8 s0 ha]
 have hg:fA ps 1 1=[av (ma ps 1) [2],aK (fI ps 1 0)]:=by
  show uN (jN [] (ma ps 1)) (fI ps 1 0) 0=_
  rw [C5 s1,C8 s1 hb]
 have hf:fA ps 0 2=[av (ma ps 0) [2,3],aK (fI ps 0 0),aK (fI ps 0 1)]:=by
  show uN (fA ps 0 1) (fI ps 0 1) 1=_
  rw [he,C7 s0 ha hc]
 have hh:fA ps 1 2=[av (ma ps 1) [2,3],aK (fI ps 1 0),aK (fI ps 1 1)]:=by
  show uN (fA ps 1 1) (fI ps 1 1) 1=_
  rw [hg,C7 s1 hb hd]
 have hk:fA ps 0 3=[av (ma ps 0) [2,3,4],aK (fI ps 0 0),aK (fI ps 0 1),aK (fI ps 0 2)]:=by
  show uN (fA ps 0 2) (fI ps 0 2) 2=_
  rw [hf,C6 s0 ha hc hi]
 have hl:fA ps 1 3=[av (ma ps 1) [2,3,4],aK (fI ps 1 0),aK (fI ps 1 1),aK (fI ps 1 2)]:=by
  show uN (fA ps 1 2) (fI ps 1 2) 2=_
  rw [hh,C6 s1 hb hd hj]
 rcases hn with rfl|rfl|rfl
 ·rw [he,hg]
  exact Ed (by omega) hA hB (s8 s0 ha) (s8 s1 hb)
 ·rw [hf,hh]
  exact Ec (by omega) hA hB (s7 s0 ha hc) (s7 s1 hb hd)
 ·rw [hk,hl]
  exact Eb (by omega) hA hB (wv s0 ha hc hi) (wv s1 hb hd hj)
end Go.Proofs.YtbnplcingdgaaaaGreat
