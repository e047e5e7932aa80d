/- The law of the order: its walk. -/
import Derived.Test.YtbnplcingdgaaaaGreatO1bh
set_option linter.unusedVariables false
set_option linter.unusedSimpArgs false
set_option maxHeartbeats 8000000
namespace Go.Proofs.YtbnplcingdgaaaaGreat
open Go.ChangeShapes Go.WideShapes Go.ChangeAt Go.RowKit Am Go.Proofs.Tryz
set_option maxRecDepth 100000
abbrev pk:Int->Array Value:=fun b=> #[.int .u8 b]
abbrev Cur(V:LLA)(i h:Int):List AC:=[.view V,.J i,.J h]
section
variable {n0 N:Nat}{g:Gd}
theorem Cm(hg:g=G0 prog n0 N)(a:Int)(m:Nat)(hm:m<=1073741823):0<=g .w .and .i64 a m/\g .w .and .i64 a m<=m:=by
 subst hg
 show 0<=IntKind.i64.wrap ((BitVec.ofInt 64 a&&&BitVec.ofInt 64 (m:Int)).toNat:Int)/\IntKind.i64.wrap ((BitVec.ofInt 64 a&&&BitVec.ofInt 64 (m:Int)).toNat:Int)<=m
 have h1:(BitVec.ofInt 64 a&&&BitVec.ofInt 64 (m:Int)).toNat<=m:=by
  rw [BitVec.toNat_and]
  refine Nat.le_trans Nat.and_le_right ?_
  rw [BitVec.toNat_ofInt]
  omega
 have h2:IntKind.i64.wrap ((BitVec.ofInt 64 a&&&BitVec.ofInt 64 (m:Int)).toNat:Int)=((BitVec.ofInt 64 a&&&BitVec.ofInt 64 (m:Int)).toNat:Int):=by
  rw [show IntKind.i64.wrap ((BitVec.ofInt 64 a&&&BitVec.ofInt 64 (m:Int)).toNat:Int)=wrap64 ((BitVec.ofInt 64 a&&&BitVec.ofInt 64 (m:Int)).toNat:Int)from IntWalk.i64_left _]
  unfold wrap64
  omega
 rw [h2]
 omega
variable {F:List AT->EH->Prop}
theorem vz{Post:AV->AH->Prop}{xs:List AT}{eh:EH}{t k:Nat}{c:List AC}(hF:F=kv 1 Post)(h0:nth eh 0=some (.bx t k c))(hc:c.all du=true)(hx:eY (mkV xs)=true)(hpost:Post (mkV xs) (toH [.bx t k c])):F xs eh:=by
 subst hF
 exact .inl ⟨mkV xs,toH [.bx t k c],[some 0],wkG [some 0] ⟨lR hx,trivial⟩ ⟨⟨_,_,me h0,rfl,rfl,rfl,.inl ⟨rfl,by simpa [aK]using hc⟩⟩,trivial⟩,hpost⟩
theorem Bh{Post:AV->List AB->Prop}{eh:EH}{t k r:Nat}{c:List AC}(hF:F=kv 0 (fun res h'=>∃rows,h'=rows.map .live/\Post res rows))(h0:nth eh r=some (.bx t k c))(hc:c.all du=true)(hpost:Post (.p 0) [⟨t,k,[c]⟩]):F [.c (.ptr r 0 0)] eh:=by
 subst hF
 exact .inl ⟨.p 0,toH [.bx t k c],[some r],wkG [some r] zr1 ⟨⟨_,_,me h0,rfl,rfl,rfl,.inl ⟨rfl,by simpa [aK]using hc⟩⟩,trivial⟩ (by simp) aw,_,rfl,hpost⟩
abbrev zI(f:FuncId)(tc:Nat)(V:LLA)(i h:Int)(args:List AT)(Q:AV->Prop):Prop:=
 Con prog f (toH [.bx tc 3 (Cur V i h)]) (.c (.ptr 0 0 0)::args) fun res h'=>∃eh,toH eh=h'/\∃i' k',0<=i'/\eh=[.bx tc 3 (Cur V i' k')]/\Q res
theorem n4(hg:g=G0 prog n0 N){H:EH}(r:Nat){f:FuncId}{tc:Nat}{V:LLA}{i h:Int}{args:List AT}{Q:AV->Prop}{K:AV->EH->Prop}(hc:zI f tc V i h args Q)(hr:nth H r=some (.bx tc 3 (Cur V i h)))(ha:(args.all kx)=true)
  (hK:∀(i' k':Int)(res:AV),0<=i'->Q res->K (res.mv (plc [r] H.length)) (tS H r (.bx tc 3 (Cur V i' k')))):g .C f H (.c (.ptr r 0 0)::args) K:=by
 have hb:r<H.length:=by rw [dN]at hr;exact(List.getElem?_eq_some_iff.1 hr).1
 refine zy hg [r] hc (by simp) (by simpa using hb) ⟨⟨_,_,rfl,by rw [hr];rfl,rfl,rfl,.inl ⟨rfl,rfl⟩⟩,trivial⟩ ⟨rfl,j8 ha⟩ fun res eh⟨i',k',h1,h2,h3⟩=> ?_
 subst h2
 have:=hK i' k' res h1 h3
 rw [iY]at this
 simpa [bP,EE.mv,AC.mv]using this
end
theorem oq(bs:List Int)(hl:bs.length<=1048576):dm prog 15 [.c (.view (vw pk bs))] fun res ha=>∃hv:Int,res= .p 0/\ha=[⟨73,3,[Cur (vw pk bs) 0 hv]⟩]:=by
 obtain⟨V,hV⟩:=nmE (vw pk bs)
 have hf:=lmV hV
 rw [<-hV]
 refine ae (aM f15) aC func15 fun g F hg hF=> ?_
 cbv
 refine gQ hg aC (by kernel_rfl) (fun s:Int×Int=>[(0,.v V),(3,.i (s.2)),(4,.i (s.1))]) (fun s=>[]) (fun s=>0<=s.1/\s.1<=az V) (fun s=>(az V).toNat-s.1.toNat) (0,g .w .add .i64 94701 (g .ln V)) ⟨by simp,by simp only [av];omega⟩ (Wk.weak (wkG [] zr3 trivial (by decide) aw)) (fun s B hs hB=> ?_)
 obtain⟨z,hv⟩:=s
 obtain⟨h0,h1⟩:=hs
 simp only at h0 h1
 have hc:az V<=1048576:=by rw [av];omega
 have t0:g .q .lss z (g .ln V)=decide (z<az V):=by rw [bz hg,bF hg]
 by_cases hz:z<az V
 ·have he:z.toNat<bs.length:=by rw [av]at hz;omega
  have hd:V[z.toNat]? =some (lc (pk bs[z.toNat])):=by rw [hV];exact bj (zqc he)
  have ez:g .w .add .i64 z 1=z+1:=by rw [aI hg];exact wr1 (by omega) (by omega)
  have hb:∀q:Int,B ([(0,.v V),(3,.i (q)),(4,.i ((z+1)))]) []:=fun q=>by
   subst hB
   exact⟨(z+1,q),⟨by simp only;omega,by simp only;omega⟩,by simp only;omega,Wk.weak (wkG [] zr3 trivial (by decide) aw)⟩
  cbv
  rw [t0,zqu hz]
  cbv
  cases hq:g .q .lss z 4000
  ·cbv
   exact Bh hF rfl rfl ⟨_,rfl,rfl⟩
  ·cbv
   refine goX hg _ h0 hd rfl ?_
   cbv
   rw [ez]
   subst hB
   exact⟨(z+1,_),⟨by simp only;omega,by simp only;omega⟩,by simp only;omega,Wk.weak (wkG [] zr3 trivial (by decide) aw)⟩
 ·cbv
  rw [t0,zqt hz]
  cbv
  exact Bh hF rfl rfl ⟨_,rfl,rfl⟩
theorem mU(bs:List Int)(hl:bs.length<=1048576)(i h:Int)(hi:0<=i):zI 27 73 (vw pk bs) i h [] fun res=>∃x:Int,res= .i x/\0<=x/\x<=255:=by
 obtain⟨V,hV⟩:=nmE (vw pk bs)
 have hd:=lmV hV
 have ha:az V<=1048576:=by rw [av];omega
 rw [<-hV]
 refine ph (c:=aM f27) aC func27 (by kernel_rfl) (by kernel_rfl) (bl (by rfl)) (by kernel_rfl) fun g F hg hF=> ?_
 replace hg:g=G0 prog 1 f27.ntmps:=hg
 replace hF:F=kv 1 _:=hF
 have t0:g .q .lss i (g .ln V)=decide (i<az V):=by rw [bz hg,bF hg]
 have hx:∀a:Int,0<=g .w .and .i64 a 255/\g .w .and .i64 a 255<=255:=fun a=>Cm hg a 255 (by decide)
 cbv
 refine goN hg (by decide) ?_
 cbv
 refine goN hg (by decide) ?_
 cbv
 rw [t0]
 by_cases hz:i<az V
 ·have hc:i.toNat<bs.length:=by rw [av]at hz;omega
  have hb:V[i.toNat]? =some (lc (pk bs[i.toNat])):=by rw [hV];exact bj (zqc hc)
  have ez:g .w .add .i64 i 1=i+1:=by rw [aI hg];exact wr1 (by omega) (by omega)
  rw [zqu hz]
  cbv
  refine goX hg _ hi hb rfl ?_
  cbv
  rw [ez]
  exact vz hF rfl rfl rfl ⟨_,rfl,_,_,by omega,rfl,_,rfl,(hx _).1,(hx _).2⟩
 ·rw [zqt hz]
  cbv
  exact vz hF rfl rfl rfl ⟨_,rfl,_,_,hi,rfl,_,rfl,(hx _).1,(hx _).2⟩
theorem lK(bs:List Int)(hl:bs.length<=1048576)(i h n:Int)(hi:0<=i):zI 16 73 (vw pk bs) i h [ai n] fun res=>∃x:Int,res= .i x/\0<=x/\(0<n->x<n)/\(n<=0->x=0):=by
 have cb:=fun(i h:Int)(hi:0<=i)=>mU bs hl i h hi
 obtain⟨V,hV⟩:=nmE (vw pk bs)
 simp only [<-hV]at cb⊢
 refine ph (c:=aM f16) aC func16 (by kernel_rfl) (by kernel_rfl) (bl (by rfl)) (by kernel_rfl) fun g F hg hF=> ?_
 replace hg:g=G0 prog 1 f16.ntmps:=hg
 replace hF:F=kv 1 _:=hF
 have t0:g .q .leq n 0=decide (n<=0):=hP hg _ _
 have t1:g .q .leq n 256=decide (n<=256):=hP hg _ _
 by_cases h0:n<=0
 ·cbv
  rw [t0,zqu h0]
  cbv
  exact vz hF rfl rfl rfl ⟨_,rfl,_,_,hi,rfl,0,rfl,by omega,by omega,by omega⟩
 ·have ha:∀y:Int,0<=y->0<=y.tmod n/\y.tmod n<n:=fun y hy=>⟨Int.tmod_nonneg n hy,Int.tmod_lt_of_pos y (by omega)⟩
  cbv
  rw [t0,zqt h0]
  cbv
  rw [t1]
  by_cases h1:n<=256
  ·rw [zqu h1]
   cbv
   refine n4 hg 0 (cb _ _ hi) rfl rfl fun i1 k1 res hb hq=> ?_
   obtain⟨x,rfl,hc,hh⟩:=hq
   cbv
   refine AZ hg (by omega) ?_
   cbv
   rw [vp hg]
   exact vz hF rfl rfl rfl ⟨_,rfl,_,_,hb,rfl,_,rfl,(ha x hc).1,fun _=>(ha x hc).2,fun h=>absurd h h0⟩
  ·rw [zqt h1]
   cbv
   refine n4 hg 0 (cb _ _ hi) rfl rfl fun i1 k1 res hb hq=> ?_
   obtain⟨x,rfl,hc,hh⟩:=hq
   cbv
   refine n4 hg 0 (cb _ _ hb) rfl rfl fun i2 k2 res hd hq=> ?_
   obtain⟨y,rfl,hn,ho⟩:=hq
   cbv
   refine n4 hg 0 (cb _ _ hd) rfl rfl fun i3 k3 res he hq=> ?_
   obtain⟨z,rfl,hp,hr⟩:=hq
   cbv
   refine n4 hg 0 (cb _ _ he) rfl rfl fun i4 k4 res hf hq=> ?_
   obtain⟨w,rfl,hj,hk⟩:=hq
   cbv
   refine AZ hg (by omega) ?_
   cbv
   have e:g .w .add .i64 (g .w .add .i64 (g .w .add .i64 (g .w .mul .i64 x 16777216) (g .w .mul .i64 y 65536)) (g .w .mul .i64 z 256)) w=x*16777216+y*65536+z*256+w:=by
    simp only [aI hg,iC hg]
    unfold wrap64
    omega
   rw [vp hg,e]
   have hm:=ha (x*16777216+y*65536+z*256+w) (by omega)
   exact vz hF rfl rfl rfl ⟨_,rfl,_,_,hf,rfl,_,rfl,hm.1,fun _=>hm.2,fun h=>absurd h h0⟩
theorem wa{α:Type}(c:α->Array Value)(xs:List α)(x:α):vw c (xs++[x])=vw c xs++[lc (c x)]:=by simp [vw]
section
variable {n0 N:Nat}{g:Gd}
theorem zx(hg:g=G0 prog n0 N){H:EH}{f:FuncId}{tc:Nat}{V:LLA}{K:AV->EH->Prop}(hc:dm prog f [.c (.view V)] fun res ha=>∃hv:Int,res= .p 0/\ha=[⟨tc,3,[Cur V 0 hv]⟩])
  (hK:∀hv:Int,K (.t (.c (.ptr (ja H) 0 0))) (H++[.bx tc 3 (Cur V 0 hv)])):g .C f H [.c (.view V)] K:=
 pi hg (d9 hc rfl fun res ha⟨hv,h1,h2⟩=>by
  subst h1 h2
  refine⟨[.bx tc 3 (Cur V 0 hv)],rfl,?_⟩
  have:=hK hv
  rw [bH]at this
  simpa [AV.shift,AT.shift,AC.shift,aO]using this)
end
theorem jW(bs:List Int)(hl:bs.length<=1048576):dm prog 8 [.c (.view (vw pk bs))] fun res ha=>∃(xs:List Int),xs.length=12/\(∀x∈xs,0<=x/\x<10000)/\res= .o 0/\ha=[⟨3,1,vw aj xs⟩]:=by
 have cn:=oq bs hl
 have cb:=fun(i h n:Int)(hi:0<=i)=>lK bs hl i h n hi
 obtain⟨V,hV⟩:=nmE (vw pk bs)
 simp only [<-hV]at cn cb⊢
 refine ae (aM Tryz.f8) aC Tryz.func8 fun g F hg hF=> ?_
 cbv
 refine zx hg cn fun hv=> ?_
 cbv
 refine gQ hg aC (by kernel_rfl) (fun s:(Int×List Int×LLA)×Int×Int=>[(3,.p 0),(4,.o 1),(5,.i (s.1.1))]) (fun s=>[.bx 73 3 (Cur V s.2.1 s.2.2),.rw ⟨3,1,s.1.2.2⟩]) (fun s=>0<=s.1.1/\s.1.1<=12/\(s.1.2.1.length:Int)=s.1.1/\s.1.2.2=vw aj s.1.2.1/\0<=s.2.1/\∀x∈s.1.2.1,0<=x/\x<10000) (fun s=>12-s.1.1.toNat)
  ((0,[],[]),0,hv) ⟨by simp,by simp,by simp,rfl,by simp,by simp⟩ (Wk.weak (wkG [some 0,some 1] zr3 ⟨wqE rfl rfl,wqE rfl rfl,trivial⟩ (by decide) aw)) (fun s B hs hB=> ?_)
 obtain⟨⟨z,xs,eX⟩,i,h⟩:=s
 obtain⟨h0,h1,h2,h3,h4,h5⟩:=hs
 dsimp only at h0 h1 h2 h3 h4 h5
 have hb:eX.length<=1048576:=by rw [h3,ak];omega
 have pX:=pmV h3
 have ez:g .w .add .i64 z 1=z+1:=by rw [aI hg];exact wr1 (by omega) (by omega)
 have hd:∀f,((xs++[f]).length:Int)=z+1:=fun f=>by simp;omega
 have hj:¬z<12->xs.length=12:=fun h=>by omega
 have tz:g .q .lss z 12=decide (z<12):=bz hg _ _
 cbv
 rw [tz]
 by_cases hzx:z<12
 ·rw [zqu hzx]
  cbv
  refine n4 hg 0 (cb _ _ _ h4) rfl rfl fun i2 k2 res hc hq=> ?_
  obtain⟨x,rfl,he,hf,_⟩:=hq
  have hh:=hf (by decide)
  have aX:eX++[[.J x]]=vw aj (xs++[x]):=by rw [wa,h3];rfl
  cbv
  refine fP hg rfl (by decide) hb ?_
  cbv
  rw [ez,jn hg]
  subst hB
  exact⟨((z+1,xs++[x],_),i2,k2),⟨by simp only;omega,by simp only;omega,hd _,aX,hc,fun y hy=>by
   rcases List.mem_append.1 hy with hy|hy
   ·exact h5 y hy
   ·rw [List.mem_singleton.1 hy];exact⟨he,hh⟩⟩,by simp only;omega,Wk.weak (wkG [some 0,some 3] zr3 ⟨wqE rfl rfl,⟨_,_,rfl,rfl,rfl,rfl,.inl ⟨rfl,aX.symm▸aB _ _⟩⟩,trivial⟩ (by decide) aw)⟩
 ·rw [zqt hzx]
  cbv
  exact CO ⟨3,1,eX⟩ hF rfl pX ⟨xs,hj hzx,h5,rfl,by rw [h3]⟩
variable {P:Program}
theorem th{H:Type}{enc:TypeId×Value->H}{w:World}{r:Reach}{b0:Nat}{mB:Bool}{T te:TypeId}{v:Value}{d:DataW H}{p:List MemPlace}
  (hl:laidOutB P=true) (hu:P.underlying te=some (.int .u8)) (hlt:te<P.types.size) (ht:P.underlying T=some (.slice te))
  (hft:ro P 5 te=some [te]) (hC:P.cellsOf te=1) (h:DataW.Trod enc P w 0 (fun _=>true) mB T v d p) (hv:Value.okWide P w r b0 T v):
  ∃xs:List Int,z7 1 pk w v xs:=by
 obtain⟨a0,n0,c0,rfl⟩:=okWide_slice ht hv
 obtain⟨hk,hf⟩:=h
 rcases Go.Deep.open_slice ht hf with⟨hcs,_⟩|⟨a,len,cap,m,n,D,Pl,hcs,hba,hlc,hm,hmm,hx,hel⟩
 ·simp [Value.cells]at hcs
  obtain⟨rfl,rfl,rfl⟩:=hcs
  exact⟨[],none,0,rfl,by simp,by simp,by simp⟩
 ·simp [Value.cells]at hcs
  obtain⟨rfl,rfl,rfl⟩:=hcs
  have hz:∀i,i<n0->∃x:Int,a.spot=none/\w.cell? ⟨a.block,a.off+i,none⟩=some (.int .u8 x):=by
   intro i hj
   obtain⟨hA,hc,hw⟩:=hel i (by rw [hmm];simp;omega)
   rw [hC]at hc
   obtain⟨_,hE,hp⟩:=World.cells?_some hc
   have h1:=ky hl 5 te _ n _ _ hlt hft hw
   obtain⟨c,f',y,hq,hy⟩:=h1.2 0 te rfl
   obtain⟨k,h2,_,_⟩:=DataW.trod_int hu hy
   simp only [List.cons.injEq,and_true]at h2
   subst h2
   have ha:=hp 0 (by omega)
   rw [hq]at ha
   have hd:a.spot=none:=by
    obtain⟨hB,hb,hh⟩:=hel 0 (by rw [hmm];simp;omega)
    rw [hC]at hb
    obtain⟨_,hG,he⟩:=World.cells?_some hb
    have ho:=ky hl 5 te _ n _ _ hlt hft hh
    obtain⟨c',hD,y',hg,_⟩:=ho.2 0 te rfl
    have h4:=he 0 (by omega)
    rw [hg]at h4
    have h5:=pB h4
    simpa [Addr.add]using h5
   refine⟨k,hd,?_⟩
   have:=xo a hd (i*1) 0
   simp only [Nat.mul_one,Nat.add_zero]at this
   rw [<-this]
   simpa using ha
  obtain⟨f,hi⟩:∃f:Nat->Int,∀i,i<n0->a.spot=none/\w.cell? ⟨a.block,a.off+i,none⟩=some (.int .u8 (f i)):=Go.Deep.choose_lt hz
  refine⟨(List.range n0).map f,some a,c0,by simp,by simpa using hlc,hm,fun h0=> ?_⟩
  have hn:0<n0:=by simpa using h0
  obtain⟨hd,_⟩:=hi 0 hn
  refine⟨a.block,a.off,by obtain⟨b,o,s⟩:=a;simp only at hd;subst hd;rfl,fun i hj j hF=> ?_⟩
  have hr:i<n0:=by simpa using hj
  obtain⟨_,h3⟩:=hi i hr
  have hs:j=0:=by omega
  subst hs
  exact⟨.int .u8 (f i),by simp,by simpa using h3⟩
section
variable {P:Program}{n0 N:Nat}{g:Gd}
end
theorem tn(bs:List Int):PC0 7 [.c (.view (vw pk bs))] (.t (abl (decide (1048576<(bs.length:Int))))):=by
 obtain⟨V,hV⟩:=nmE (vw pk bs)
 obtain⟨q,hq⟩:=nmE (decide (1048576<(bs.length:Int)))
 have ha:az V=(bs.length:Int):=by rw [hV,av,ak]
 rw [<-hV,<-hq]
 rw [<-ha]at hq
 refine ae (aM Tryz.f7) aC Tryz.func7 fun g F hg hF=> ?_
 cbv
 exact aP hF (by rw [dd hg,bF hg,hq])
theorem uY{f:FuncId}{args:List AT}{T:LLA}{C:Int}(hc:zG P f args fun lo res ha=>(∃b0,res= .tup [.agg [.fv b0 T],ai C]/\jo lo b0)/\eY res=true/\ha=[]):dm P f args fun res ha=>res= .tup [.agg [.view T],ai C]/\ha=[]:=by
 have h0:=hc 0
 refine⟨h0.1,fun F w m vs hH hl hx=>(h0.2 F w m vs hH hl hx).mono fun e w'⟨v,res,h',m',F',he,hp,hG,hs,hv⟩=> ?_⟩
 obtain⟨ha,hh,⟨b0,hr,-⟩,-,hw⟩:=hp
 subst hr hw
 refine⟨v,.tup [.agg [.view T],ai C],h',m',F',he,⟨[],hh,rfl,rfl⟩,hG,hs,?_⟩
 obtain⟨us,h1,h2,h3⟩:=hv
 refine⟨us,h1,h2,fun j x hj=> ?_⟩
 match j,hj with
 |0,hj=>
  obtain⟨u,hu,hb,g1,g2,g3⟩:=h3 0 _ rfl
  obtain rfl:AT.agg [.view T]=x:=by simpa using hj
  refine⟨u,hu,hb,g1,g2,fun i c hi=> ?_⟩
  match i,hi with
  |0,hi=>
   obtain⟨u',k1,k2,k3⟩:=g3 0 _ rfl
   obtain rfl:AC.view T=c:=by simpa using hi
   exact⟨u',k1,k2,SP.rp k3⟩
  |i+1,hi=>simp at hi
 |1,hj=>
  obtain⟨u,hu,hr⟩:=h3 1 _ rfl
  obtain rfl:ai C=x:=by simpa using hj
  exact⟨u,hu,hr⟩
 |j+2,hj=>simp at hj
theorem wC{f:FuncId}{xs:List AT}{Post:AV->List AB->Prop}(hc:dm P f (.agg [.view []]::xs) Post):dm P f (.agg [.N]::xs) Post:=
 ⟨hc.1,fun F w m vs hH hl hx=>hc.2 F w m vs hH (by simpa using hl) fun j x hj=>by
  match j,hj with
  |0,hj=>
   obtain⟨v,hv,us,g1,g2,g3⟩:=hx 0 _ rfl
   obtain rfl:AT.agg [.view []]=x:=by simpa using hj
   refine⟨v,hv,us,g1,g2,fun i c hi=> ?_⟩
   match i,hi with
   |0,hi=>
    obtain⟨u,k1,k2,k3⟩:=g3 0 _ rfl
    obtain rfl:AC.view []=c:=by simpa using hi
    exact⟨u,k1,k2,none,0,k3,Nat.le_refl _,Nat.zero_le _,.inl rfl⟩
   |i+1,hi=>simp at hi
  |j+1,hj=>exact hx (j+1) x hj⟩
theorem iQ(ns:List af)(hl:ns.length<=1048576)(hs:∀y∈ns,af.small y)(s:ah):PC0 10 [.agg [.view (vwA af.ac ns)],.agg (lc (ah.c s))] (.tup [.agg [.view (vwA af.ac (nw ns s))],ai (qK ns s)]):=
 uY (mY ns hl hs s)
theorem kF(ns:List af)(hl:ns.length<=1048576)(hs:∀y∈ns,af.small y)(n kid p:Int):PC0 12 [.agg [.view (vwA af.ac ns)],ai n,ai kid,ai p] (.tup [.agg [.view (vwA af.ac (inN ns n kid p))],ai (inI ns n kid p)]):=
 uY (kI ns hl hs n kid p)
theorem mu(ns:List af)(hl:ns.length<=1048576)(hs:∀y∈ns,af.small y)(n a b c d:Int)(rtl:Bool):PC0 13 [.agg [.view (vwA af.ac ns)],ai n,agP ⟨a,b⟩,agP ⟨c,d⟩,abl rtl] (.t (.agg (lD.ac (sbO ns n ⟨a,b⟩ ⟨c,d⟩ rtl)))):=
 qc (mw ns hl hs n a b c d rtl) (xz (c:=aD.c) (k:=5) fun _=>rfl) py
theorem jV(bs:List Int)(hl:bs.length<=1048576):dm prog 8 [.c (.view (vw pk bs))] fun res ha=>(∃(xs:List Int),xs.length=12/\(∀x∈xs,0<=x/\x<10000)/\res= .t (.c (.view (vw aj xs))))/\ha=[]:=
 l9 (jW bs hl) fun res ha⟨xs,h1,h2,e1,e2⟩=>by
  subst e1 e2
  exact⟨.t (.c (.view (vw aj xs))),[],bK (sl1 0 _) (jY rfl (xz (c:=aj) (k:=1) fun _=>rfl) py) (Wk.weak (wkG [] zr1 trivial (by decide) aw)),⟨xs,h1,h2,rfl⟩,rfl⟩
theorem lM:PC0 17 [] (.t (.agg (lc (ah.c CF)))):=by
 refine ae (aM f17) aC func17 fun g F hg hF=> ?_
 cbv
 exact px hF rfl ⟨rfl,rfl⟩
theorem ql:PC0 9 [] (.t (.agg (lc (ah.c gK)))):=by
 have c0:=lM
 refine ae (aM Tryz.f9) aC Tryz.func9 fun g F hg hF=> ?_
 cbv
 repeat'((first|refine ad hg c0 ?_|refine aa hg c0 ?_);cbv)
 exact px hF rfl ⟨rfl,rfl⟩
theorem qk(n:Int):PC0 11 [ai n] (.t (.agg [.J 1,.J n])):=by
 refine ae (aM f11) aC func11 fun g F hg hF=> ?_
 cbv
 exact px hF rfl ⟨rfl,rfl⟩
def gN(ps:List Int)(i:Nat):Int:=((ps[i]?).getD 0).tmod 5-2
def oI(ps:List Int)(i:Nat):List af:=rC (fun i=>jl (gN ps i)) (nw [] gK) i
theorem gM{ps:List Int}(hp:∀x∈ps,0<=x/\x<10000)(i:Nat):gN ps i∈[-2,-1,0,1,2]:=by
 have h:0<=(ps[i]?).getD 0:=by
  cases h:ps[i]? with
  |none=>exact Int.le_refl 0
  |some x=>exact(hp x (zqd h)).1
 obtain⟨q,hq⟩:=nmE ((ps[i]?).getD 0)
 unfold gN
 rw [<-hq]at h⊢
 have m1:=Int.tmod_lt_of_pos q (show(0:Int)<5 by decide)
 have m2:=Int.tmod_nonneg 5 h
 simp only [List.mem_cons,List.not_mem_nil,or_false]
 omega
theorem kO(bs:List Int)(hbl:bs.length<=9223372036854775807):PC0 4 [.c (.view (vw pk bs))] (.t (abl true)):=by
 have cg:=tn bs
 by_cases h6:bs.length<=1048576
 case neg=>
  rw [zqu (by omega)]at cg
  obtain⟨V,hV⟩:=nmE (vw pk bs)
  rw [<-hV]at cg⊢
  refine ae (aM Tryz.f4) aC Tryz.func4 fun g F hg hF=> ?_
  cbv
  (first|refine ad hg (cg) ?_|refine aa hg (cg) ?_);cbv
  exact aP hF rfl
 rw [zqt (by omega)]at cg
 have c2:=jV bs h6
 have hh:=ql
 have hm:=qk 10
 have hj:=wC (iQ [] (by simp) (by simp) gK)
 have hl:=rB [] (by simp) (by simp) gK
 obtain⟨V,hV⟩:=nmE (vw pk bs)
 rw [<-hV]at cg c2⊢
 obtain⟨I0,hw⟩:=nmE (qK [] gK)
 obtain⟨T0,hn⟩:=nmE (vwA af.ac (nw [] gK))
 rw [<-hw,<-hn]at hj
 refine jz ([(12,.hand)]) ([]) (c:=aM Tryz.f4) aC Tryz.func4 (by kernel_rfl) (by kernel_rfl) (by rfl) (by kernel_rfl) fun g yP hd F hc hr hg hF=> ?_
 cbv
 (first|refine ad hg (cg) ?_|refine aa hg (cg) ?_);cbv
 refine pi hg (d9 c2 rfl fun res h3 hq=> ?_)
 obtain⟨⟨ps,hK,hp,rfl⟩,rfl⟩:=hq
 obtain⟨W,hW⟩:=nmE (vw aj ps)
 rw [<-hW]
 have yQ:az W=12:=by rw [hW,av,ak,hK];rfl
 refine⟨[],rfl,?_⟩
 cbv
 repeat'((first|refine ad hg hh ?_|refine aa hg hh ?_|refine ad hg hj ?_|refine aa hg hj ?_);cbv)
 refine il [(12,.hand)] [] hc hr hg aC (by kernel_rfl) (fun s:Int×LLA=>[(3,.v W),(4,.p 0),(6,.i (s.1))]) (fun s=>[.bx 38 1 [.view s.2]]) (fun s=>0<=s.1/\s.1<=4/\s.2=vwA af.ac (oI ps s.1.toNat)) (fun s=>4-s.1.toNat)
  (0,T0) ⟨by simp,by simp,hn⟩ (Wk.weak (wkG [some _] zr3 ⟨wqE rfl rfl,trivial⟩ (by decide) aw)) (fun s B hs hB=> ?_)
 obtain⟨z,E⟩:=s
 obtain⟨h0,h1,h2⟩:=hs
 dsimp only at h0 h1 h2
 have tz:g .q .lss z 4=decide (z<4):=bz hg _ _
 have ez:g .w .add .i64 z 1=z+1:=by rw [aI hg];exact wr1 (by omega) (by omega)
 by_cases hz:z<4
 ·rw [zqu hz]at tz
  obtain⟨q,hq⟩:∃q,ps[z.toNat]? =some q:=⟨_,zqc (by rw [hK];omega)⟩
  have hU:W[z.toNat]? =some [.J q]:=by rw [hW];exact bj hq
  have hb:=pr (fun i=>jl (gN ps i)) _ hl.1 hl.2 z.toNat
  have cA:=iQ _ hb.1 hb.2 (jl (gN ps z.toNat))
  have hv:=rB _ hb.1 hb.2 (jl (gN ps z.toNat))
  have cI:=kF _ hv.1 hv.2 1 (qK (oI ps z.toNat) (jl (gN ps z.toNat))) z
  have hJ:vwA af.ac (inN (nw (oI ps z.toNat) (jl (gN ps z.toNat))) 1 (qK (oI ps z.toNat) (jl (gN ps z.toNat))) z)=vwA af.ac (oI ps (z+1).toNat):=by
   obtain⟨n,rfl⟩:∃n:Nat,z=(n:Int):=⟨z.toNat,by omega⟩
   rw [show((n:Int)+1).toNat=n+1 by omega,Int.toNat_natCast]
   rfl
  change PC0 _ [.agg [.view (vwA af.ac (oI ps z.toNat))],_] (.tup [.agg [.view (vwA af.ac (nw (oI ps z.toNat) (jl (gN ps z.toNat))))],ai (qK (oI ps z.toNat) (jl (gN ps z.toNat)))])at cA
  change PC0 _ [.agg [.view (vwA af.ac (nw (oI ps z.toNat) (jl (gN ps z.toNat))))],ai 1,ai (qK (oI ps z.toNat) (jl (gN ps z.toNat))),ai z] (.tup [.agg [.view (vwA af.ac (inN (nw (oI ps z.toNat) (jl (gN ps z.toNat))) 1 (qK (oI ps z.toNat) (jl (gN ps z.toNat))) z))],ai (inI (nw (oI ps z.toNat) (jl (gN ps z.toNat))) 1 (qK (oI ps z.toNat) (jl (gN ps z.toNat))) z)])at cI
  rw [hJ]at cI
  have eo:g .w .sub .i64 (g .w .rem .i64 q 5) 2=gN ps z.toNat:=by
   have m1:=Int.tmod_lt_of_pos q (show(0:Int)<5 by decide)
   have m2:=Int.tmod_nonneg 5 (hp q (zqd hq)).1
   rw [dI hg,vp hg,gN,hq]
   show wrap64 (q.tmod 5-2)=q.tmod 5-2
   unfold wrap64
   omega
  obtain⟨M3,hC⟩:=nmE (vwA af.ac (oI ps (z+1).toNat))
  rw [<-hC]at cI
  rw [<-h2]at cA
  obtain⟨M2,hA⟩:=nmE (vwA af.ac (nw (oI ps z.toNat) (jl (gN ps z.toNat))))
  obtain⟨n2,hu⟩:=nmE (qK (oI ps z.toNat) (jl (gN ps z.toNat)))
  obtain⟨k2,ht⟩:=nmE (inI (nw (oI ps z.toNat) (jl (gN ps z.toNat))) 1 (qK (oI ps z.toNat) (jl (gN ps z.toNat))) z)
  rw [<-hA,<-hu]at cA cI
  rw [<-hu]at ht
  rw [<-ht]at cI
  obtain⟨o,ho⟩:=nmE (gN ps z.toNat)
  rw [<-ho]at cA eo
  clear hA hu ht hJ ho hb hv
  cbv
  (repeat'((first|rw [tz]|rw [eo]|refine ad hg hh ?_|refine aa hg hh ?_|refine ad hg hm ?_|refine aa hg hm ?_|refine goX hg _ (by omega) hU rfl ?_|refine AZ hg (by decide) ?_);cbv))
  refine sq [] [] hc hr hg aC [(3,.v W),(4,.p 0),(6,.i (z)),(8,.i (n2))] [.bx 38 1 [.view M2]] (by kernel_rfl) (fun B' hN=> ?_) ?_
  ·cbv
   repeat'((first|refine ad hg cA ?_|refine aa hg cA ?_);cbv)
   skip
   exact hN _ _ (Wk.weak (wkG [some _] zr4 ⟨wqE rfl rfl,trivial⟩ (by decide) aw))
  cbv
  repeat'((first|refine ad hg cI ?_|refine aa hg cI ?_);cbv)
  rw [ez]
  skip
  subst hB
  exact⟨(z+1,M3),⟨by simp only;omega,by simp only;omega,hC⟩,by simp only;omega,Wk.weak (wkG [some _] zr3 ⟨wqE rfl rfl,trivial⟩ (by decide) aw)⟩
 ·rw [zqt hz]at tz
  obtain rfl:z=4:=by omega
  clear h0 h1 hz ez
  have hb:=pr (fun i=>jl (gN ps i)) _ hl.1 hl.2 4
  have cb:=mu _ hb.1 hb.2 1 3 100 3 5 false
  have hT:rC (fun i=>jl (gN ps i)) (nw [] gK) 4=Ap (gN ps 0) (gN ps 1) (gN ps 2) (gN ps 3):=wE _ (gM hp 0) _ (gM hp 1) _ (gM hp 2) _ (gM hp 3)
  have ha:=yN _ (gM hp 0) _ (gM hp 1) _ (gM hp 2) _ (gM hp 3)
  have hi:E=vwA af.ac (rC (fun i=>jl (gN ps i)) (nw [] gK) 4):=h2
  rw [hT]at cb hi
  obtain⟨T,hTT⟩:=nmE (Ap (gN ps 0) (gN ps 1) (gN ps 2) (gN ps 3))
  rw [<-hTT]at cb hi ha
  have hP:T.length=5:=by rw [hTT];rfl
  obtain⟨bx,hD⟩:=nmE (sbO T 1 ⟨3,100⟩ ⟨3,5⟩ false)
  rw [<-hD]at cb ha
  rw [<-hi]at cb
  obtain⟨bw,bh,bb,fr⟩:=bx
  obtain⟨hS,hR⟩:=yO ha
  obtain⟨FR,hk⟩:=nmE (vw aD.c fr)
  have hO:az FR=4:=by rw [hk,av,ak,hS];rfl
  replace cb:PC0 13 [.agg [.view E],ai 1,agP ⟨3,100⟩,agP ⟨3,5⟩,abl false] (.t (.agg [.J bw,.J bh,.J bb,.view FR])):=by rw [hk];exact cb
  have tl:g .q .neq (g .ln FR) 4=false:=by rw [dr hg,bF hg,hO];rfl
  clear hD ha hTT hT h2 hb hh hm hj hn hw
  cbv
  (repeat'((first|rw [tz]|rw [tl]|refine ad hg cb ?_|refine aa hg cb ?_);cbv))
  clear tz
  refine il [] [] hc hr hg aC (by kernel_rfl) (fun s:Int=>[(4,.p 0),(9,.p 1),(10,.i (s))]) (fun s=>[.bx 38 1 [.view E],.bx 47 4 [.J bw,.J bh,.J bb,.view FR]]) (fun s=>0<=s/\s<=4) (fun s=>4-s.toNat)
   0 ⟨by simp,by simp⟩ (Wk.weak (wkG [some _,some _] zr3 ⟨wqE rfl rfl,wqE rfl rfl,trivial⟩ (by decide) aw)) (fun z B hs hB=> ?_)
  obtain⟨h0,h1⟩:=hs
  have tz:g .q .lss z 4=decide (z<4):=bz hg _ _
  have ez:g .w .add .i64 z 1=z+1:=by rw [aI hg];exact wr1 (by omega) (by omega)
  by_cases hz:z<4
  ·rw [zqu hz]at tz
   obtain⟨f,hf,hI,hH,hE⟩:=hR z h0 hz
   obtain⟨fn,fx,fy,fw,fh⟩:=f
   dsimp only at hI hH hE
   have hG:FR[z.toNat]? =some [.J fn,.J fx,.J fy,.J fw,.J fh]:=by rw [hk];exact bj hf
   have e1:g .w .mul .i64 10 z=fx:=by rw [iC hg,hI];exact ay _ (by omega)
   have q1:g .q .neq fx fx=false:=by rw [dr hg];simp
   have q2:g .q .neq fw 10=false:=by rw [dr hg,hH];rfl
   have q3:g .q .gtr z 0=decide (0<z):=dd hg _ _
   by_cases hz0:z=0
   ·rw [zqt (by omega)]at q3
    cbv
    (repeat'((first|rw [tz]|rw [ez]|rw [e1]|rw [q1]|rw [q2]|rw [q3]|refine goX hg _ (by omega) hG rfl ?_);cbv))
    skip
    subst hB
    exact⟨z+1,⟨by omega,by omega⟩,by omega,Wk.weak (wkG [some _,some _] zr3 ⟨wqE rfl rfl,wqE rfl rfl,trivial⟩ (by decide) aw)⟩
   ·rw [zqu (by omega)]at q3
    obtain⟨e,x,y,he,n1,n2,hx,hy,hY⟩:=hE (by omega)
    obtain⟨en,ex,ey,ew,eh⟩:=e
    dsimp only at n1 n2 hx hy
    have b1:=(List.getElem?_eq_some_iff.1 hx).1
    have b2:=(List.getElem?_eq_some_iff.1 hy).1
    rw [hP]at b1 b2
    have hQ:FR[(z-1).toNat]? =some [.J en,.J ex,.J ey,.J ew,.J eh]:=by rw [hk];exact bj he
    have es:g .w .sub .i64 z 1=z-1:=by rw [dI hg,ay _ (by omega)]
    have e2:g .w .sub .i64 en 1=en-1:=by rw [dI hg,ay _ (by omega)]
    have e3:g .w .sub .i64 fn 1=fn-1:=by rw [dI hg,ay _ (by omega)]
    have hX:E[(en-1).toNat]? =some (af.ac x):=by rw [hi];exact eJ hx
    have hZ:E[(fn-1).toNat]? =some (af.ac y):=by rw [hi];exact eJ hy
    obtain⟨a0,a1,⟨a2,a3,a4,a5,a6,a7,a8,a9,hL,h4,h5,⟨h7,h8⟩,⟨h9,xa⟩,⟨xb,xc⟩,⟨xd,xe⟩,⟨xf,xg⟩,⟨xh,xi⟩,⟨xj,xk⟩,xl,⟨⟨xm,xn⟩,⟨xo,xp⟩,⟨xq,xr⟩,⟨xs,xt⟩,⟨xu,xv⟩,⟨xw,xx⟩⟩,⟨⟨xy,xz⟩,⟨xA,xB⟩,⟨xC,xD⟩,⟨xE,xF⟩,⟨xG,xH⟩,⟨xI,xJ⟩⟩,⟨xK,xL,xM,xN⟩,⟨xO,xP,xQ,xR⟩,xS,xT⟩,xU,⟨xV⟩⟩:=x
    obtain⟨b0,b1,⟨b2,b3,b4,b5,b6,b7,b8,b9,hM,xW,xX,⟨xY,xZ⟩,⟨x0,x1⟩,⟨x2,x3⟩,⟨x4,x5⟩,⟨x6,x7⟩,⟨x8,x9⟩,⟨ya,yb⟩,yc,⟨⟨yd,ye⟩,⟨yf,yg⟩,⟨yh,yi⟩,⟨yj,yk⟩,⟨yl,ym⟩,⟨yn,yo⟩⟩,⟨⟨yp,yq⟩,⟨yr,ys⟩,⟨yt,yu⟩,⟨yv,yw⟩,⟨yx,yy⟩,⟨yz,yA⟩⟩,⟨yB,yC,yD,yE⟩,⟨yF,yG,yH,yI⟩,yJ,yK⟩,yL,⟨yM⟩⟩:=y
    dsimp only at hY
    have q4:g .q .gtr hL hM=false:=by rw [dd hg,zqt (by omega)]
    cbv
    (repeat'((first|rw [tz]|rw [ez]|rw [e1]|rw [q1]|rw [q2]|rw [q3]|rw [es]|rw [e2]|rw [e3]|rw [q4]|refine goX hg _ (by omega) hG rfl ?_|refine goX hg _ (by omega) hQ rfl ?_|refine goX hg _ (by omega) hX rfl ?_|refine goX hg _ (by omega) hZ rfl ?_);cbv))
    skip
    subst hB
    exact⟨z+1,⟨by omega,by omega⟩,by omega,Wk.weak (wkG [some _,some _] zr3 ⟨wqE rfl rfl,wqE rfl rfl,trivial⟩ (by decide) aw)⟩
  ·rw [zqt hz]at tz
   cbv
   (repeat'(rw [tz];cbv))
   exact aP hF rfl
end Go.Proofs.YtbnplcingdgaaaaGreat
