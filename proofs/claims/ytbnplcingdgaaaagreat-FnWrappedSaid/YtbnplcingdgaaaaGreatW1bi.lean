/- The law of lines that wrap: its walk. -/
import Derived.Test.YtbnplcingdgaaaaGreatW1bh
set_option linter.unusedVariables false
set_option linter.unusedSimpArgs false
set_option maxHeartbeats 8000000
namespace Go.Proofs.YtbnplcingdgaaaaGreat
open Go.ChangeShapes Go.WideShapes Go.ChangeAt Go.RowKit Am Go.Proofs.Tryz
set_option maxRecDepth 100000
abbrev pk:Int->Array Value:=fun b=> #[.int .u8 b]
abbrev Cur(V:LLA)(i h:Int):List AC:=[.view V,.J i,.J h]
section
variable {n0 N:Nat}{g:Gd}
theorem Cw(hg:g=G0 prog n0 N)(a:Int)(m:Nat)(hm:m<=1073741823):0<=g .w .and .i64 a m/\g .w .and .i64 a m<=m:=by
 subst hg
 show 0<=IntKind.i64.wrap ((BitVec.ofInt 64 a&&&BitVec.ofInt 64 (m:Int)).toNat:Int)/\IntKind.i64.wrap ((BitVec.ofInt 64 a&&&BitVec.ofInt 64 (m:Int)).toNat:Int)<=m
 have h1:(BitVec.ofInt 64 a&&&BitVec.ofInt 64 (m:Int)).toNat<=m:=by
  rw [BitVec.toNat_and]
  refine Nat.le_trans Nat.and_le_right ?_
  rw [BitVec.toNat_ofInt]
  omega
 have h2:IntKind.i64.wrap ((BitVec.ofInt 64 a&&&BitVec.ofInt 64 (m:Int)).toNat:Int)=((BitVec.ofInt 64 a&&&BitVec.ofInt 64 (m:Int)).toNat:Int):=by
  rw [show IntKind.i64.wrap ((BitVec.ofInt 64 a&&&BitVec.ofInt 64 (m:Int)).toNat:Int)=wrap64 ((BitVec.ofInt 64 a&&&BitVec.ofInt 64 (m:Int)).toNat:Int)from IntWalk.i64_left _]
  unfold wrap64
  omega
 rw [h2]
 omega
variable {F:List AT->EH->Prop}
theorem vE{Post:AV->AH->Prop}{xs:List AT}{eh:EH}{t k:Nat}{c:List AC}(hF:F=kr 1 Post)(h0:nth eh 0=some (.bx t k c))(hc:c.all dx=true)(hx:eP (mkV xs)=true)(hpost:Post (mkV xs) (toH [.bx t k c])):F xs eh:=by
 subst hF
 exact .inl ⟨mkV xs,toH [.bx t k c],[some 0],wkG [some 0] ⟨lV hx,trivial⟩ ⟨⟨_,_,mh h0,rfl,rfl,rfl,.inl ⟨rfl,by simpa [aK]using hc⟩⟩,trivial⟩,hpost⟩
theorem Bq{Post:AV->List AB->Prop}{eh:EH}{t k r:Nat}{c:List AC}(hF:F=kr 0 (fun res h'=>∃rows,h'=rows.map .live/\Post res rows))(h0:nth eh r=some (.bx t k c))(hc:c.all dx=true)(hpost:Post (.p 0) [⟨t,k,[c]⟩]):F [.c (.ptr r 0 0)] eh:=by
 subst hF
 exact .inl ⟨.p 0,toH [.bx t k c],[some r],wkG [some r] zr1 ⟨⟨_,_,mh h0,rfl,rfl,rfl,.inl ⟨rfl,by simpa [aK]using hc⟩⟩,trivial⟩ (by simp) ay,_,rfl,hpost⟩
abbrev zS(f:FuncId)(tc:Nat)(V:LLA)(i h:Int)(args:List AT)(Q:AV->Prop):Prop:=
 Con prog f (toH [.bx tc 3 (Cur V i h)]) (.c (.ptr 0 0 0)::args) fun res h'=>∃eh,toH eh=h'/\∃i' k',0<=i'/\eh=[.bx tc 3 (Cur V i' k')]/\Q res
theorem n6(hg:g=G0 prog n0 N){H:EH}(r:Nat){f:FuncId}{tc:Nat}{V:LLA}{i h:Int}{args:List AT}{Q:AV->Prop}{K:AV->EH->Prop}(hc:zS f tc V i h args Q)(hr:nth H r=some (.bx tc 3 (Cur V i h)))(ha:(args.all kv)=true)
  (hK:∀(i' k':Int)(res:AV),0<=i'->Q res->K (res.mv (plc [r] H.length)) (tX H r (.bx tc 3 (Cur V i' k')))):g .C f H (.c (.ptr r 0 0)::args) K:=by
 have hb:r<H.length:=by rw [dN]at hr;exact(List.getElem?_eq_some_iff.1 hr).1
 refine zK hg [r] hc (by simp) (by simpa using hb) ⟨⟨_,_,rfl,by rw [hr];rfl,rfl,rfl,.inl ⟨rfl,rfl⟩⟩,trivial⟩ ⟨rfl,jZ ha⟩ fun res eh⟨i',k',h1,h2,h3⟩=> ?_
 subst h2
 have:=hK i' k' res h1 h3
 rw [i5]at this
 simpa [bP,EE.mv,AC.mv]using this
end
theorem ot(bs:List Int)(hl:bs.length<=1048576):dr prog 15 [.c (.view (vw pk bs))] fun res ha=>∃hv:Int,res= .p 0/\ha=[⟨73,3,[Cur (vw pk bs) 0 hv]⟩]:=by
 obtain⟨V,hV⟩:=nmE (vw pk bs)
 have hf:=lmV hV
 rw [<-hV]
 refine ae (aM f15) aB func15 fun g F hg hF=> ?_
 cbv
 refine gV hg aB (by kernel_rfl) (fun s:Int×Int=>[(0,.v V),(3,.i (s.2)),(4,.i (s.1))]) (fun s=>[]) (fun s=>0<=s.1/\s.1<=az V) (fun s=>(az V).toNat-s.1.toNat) (0,g .w .add .i64 94701 (g .ln V)) ⟨by simp,by simp only [aw];omega⟩ (Wk.weak (wkG [] zr3 trivial (by decide) ay)) (fun s B hs hB=> ?_)
 obtain⟨z,hv⟩:=s
 obtain⟨h0,h1⟩:=hs
 simp only at h0 h1
 have hc:az V<=1048576:=by rw [aw];omega
 have t0:g .q .lss z (g .ln V)=decide (z<az V):=by rw [bA hg,bG hg]
 by_cases hz:z<az V
 ·have he:z.toNat<bs.length:=by rw [aw]at hz;omega
  have hd:V[z.toNat]? =some (lc (pk bs[z.toNat])):=by rw [hV];exact bk (zqc he)
  have ez:g .w .add .i64 z 1=z+1:=by rw [aI hg];exact wr1 (by omega) (by omega)
  have hb:∀q:Int,B ([(0,.v V),(3,.i (q)),(4,.i ((z+1)))]) []:=fun q=>by
   subst hB
   exact⟨(z+1,q),⟨by simp only;omega,by simp only;omega⟩,by simp only;omega,Wk.weak (wkG [] zr3 trivial (by decide) ay)⟩
  cbv
  rw [t0,zqu hz]
  cbv
  cases hq:g .q .lss z 4000
  ·cbv
   exact Bq hF rfl rfl ⟨_,rfl,rfl⟩
  ·cbv
   refine goX hg _ h0 hd rfl ?_
   cbv
   rw [ez]
   subst hB
   exact⟨(z+1,_),⟨by simp only;omega,by simp only;omega⟩,by simp only;omega,Wk.weak (wkG [] zr3 trivial (by decide) ay)⟩
 ·cbv
  rw [t0,zqt hz]
  cbv
  exact Bq hF rfl rfl ⟨_,rfl,rfl⟩
theorem mX(bs:List Int)(hl:bs.length<=1048576)(i h:Int)(hi:0<=i):zS 27 73 (vw pk bs) i h [] fun res=>∃x:Int,res= .i x/\0<=x/\x<=255:=by
 obtain⟨V,hV⟩:=nmE (vw pk bs)
 have hd:=lmV hV
 have ha:az V<=1048576:=by rw [aw];omega
 rw [<-hV]
 refine pg (c:=aM f27) aB func27 (by kernel_rfl) (by kernel_rfl) (bl (by rfl)) (by kernel_rfl) fun g F hg hF=> ?_
 replace hg:g=G0 prog 1 f27.ntmps:=hg
 replace hF:F=kr 1 _:=hF
 have t0:g .q .lss i (g .ln V)=decide (i<az V):=by rw [bA hg,bG hg]
 have hx:∀a:Int,0<=g .w .and .i64 a 255/\g .w .and .i64 a 255<=255:=fun a=>Cw hg a 255 (by decide)
 cbv
 refine goN hg (by decide) ?_
 cbv
 refine goN hg (by decide) ?_
 cbv
 rw [t0]
 by_cases hz:i<az V
 ·have hc:i.toNat<bs.length:=by rw [aw]at hz;omega
  have hb:V[i.toNat]? =some (lc (pk bs[i.toNat])):=by rw [hV];exact bk (zqc hc)
  have ez:g .w .add .i64 i 1=i+1:=by rw [aI hg];exact wr1 (by omega) (by omega)
  rw [zqu hz]
  cbv
  refine goX hg _ hi hb rfl ?_
  cbv
  rw [ez]
  exact vE hF rfl rfl rfl ⟨_,rfl,_,_,by omega,rfl,_,rfl,(hx _).1,(hx _).2⟩
 ·rw [zqt hz]
  cbv
  exact vE hF rfl rfl rfl ⟨_,rfl,_,_,hi,rfl,_,rfl,(hx _).1,(hx _).2⟩
theorem lM(bs:List Int)(hl:bs.length<=1048576)(i h n:Int)(hi:0<=i):zS 16 73 (vw pk bs) i h [ai n] fun res=>∃x:Int,res= .i x/\0<=x/\(0<n->x<n)/\(n<=0->x=0):=by
 have cb:=fun(i h:Int)(hi:0<=i)=>mX bs hl i h hi
 obtain⟨V,hV⟩:=nmE (vw pk bs)
 simp only [<-hV]at cb⊢
 refine pg (c:=aM f16) aB func16 (by kernel_rfl) (by kernel_rfl) (bl (by rfl)) (by kernel_rfl) fun g F hg hF=> ?_
 replace hg:g=G0 prog 1 f16.ntmps:=hg
 replace hF:F=kr 1 _:=hF
 have t0:g .q .leq n 0=decide (n<=0):=ig hg _ _
 have t1:g .q .leq n 256=decide (n<=256):=ig hg _ _
 by_cases h0:n<=0
 ·cbv
  rw [t0,zqu h0]
  cbv
  exact vE hF rfl rfl rfl ⟨_,rfl,_,_,hi,rfl,0,rfl,by omega,by omega,by omega⟩
 ·have ha:∀y:Int,0<=y->0<=y.tmod n/\y.tmod n<n:=fun y hy=>⟨Int.tmod_nonneg n hy,Int.tmod_lt_of_pos y (by omega)⟩
  cbv
  rw [t0,zqt h0]
  cbv
  rw [t1]
  by_cases h1:n<=256
  ·rw [zqu h1]
   cbv
   refine n6 hg 0 (cb _ _ hi) rfl rfl fun i1 k1 res hb hq=> ?_
   obtain⟨x,rfl,hc,hh⟩:=hq
   cbv
   refine zq hg (by omega) ?_
   cbv
   rw [tx hg]
   exact vE hF rfl rfl rfl ⟨_,rfl,_,_,hb,rfl,_,rfl,(ha x hc).1,fun _=>(ha x hc).2,fun h=>absurd h h0⟩
  ·rw [zqt h1]
   cbv
   refine n6 hg 0 (cb _ _ hi) rfl rfl fun i1 k1 res hb hq=> ?_
   obtain⟨x,rfl,hc,hh⟩:=hq
   cbv
   refine n6 hg 0 (cb _ _ hb) rfl rfl fun i2 k2 res hd hq=> ?_
   obtain⟨y,rfl,hn,ho⟩:=hq
   cbv
   refine n6 hg 0 (cb _ _ hd) rfl rfl fun i3 k3 res he hq=> ?_
   obtain⟨z,rfl,hp,hr⟩:=hq
   cbv
   refine n6 hg 0 (cb _ _ he) rfl rfl fun i4 k4 res hf hq=> ?_
   obtain⟨w,rfl,hj,hk⟩:=hq
   cbv
   refine zq hg (by omega) ?_
   cbv
   have e:g .w .add .i64 (g .w .add .i64 (g .w .add .i64 (g .w .mul .i64 x 16777216) (g .w .mul .i64 y 65536)) (g .w .mul .i64 z 256)) w=x*16777216+y*65536+z*256+w:=by
    simp only [aI hg,gH hg]
    unfold wrap64
    omega
   rw [tx hg,e]
   have hm:=ha (x*16777216+y*65536+z*256+w) (by omega)
   exact vE hF rfl rfl rfl ⟨_,rfl,_,_,hf,rfl,_,rfl,hm.1,fun _=>hm.2,fun h=>absurd h h0⟩
theorem wi{α:Type}(c:α->Array Value)(xs:List α)(x:α):vw c (xs++[x])=vw c xs++[lc (c x)]:=by simp [vw]
section
variable {n0 N:Nat}{g:Gd}
theorem zJ(hg:g=G0 prog n0 N){H:EH}{f:FuncId}{tc:Nat}{V:LLA}{K:AV->EH->Prop}(hc:dr prog f [.c (.view V)] fun res ha=>∃hv:Int,res= .p 0/\ha=[⟨tc,3,[Cur V 0 hv]⟩])
  (hK:∀hv:Int,K (.t (.c (.ptr (jb H) 0 0))) (H++[.bx tc 3 (Cur V 0 hv)])):g .C f H [.c (.view V)] K:=
 pi hg (d9 hc rfl fun res ha⟨hv,h1,h2⟩=>by
  subst h1 h2
  refine⟨[.bx tc 3 (Cur V 0 hv)],rfl,?_⟩
  have:=hK hv
  rw [bI]at this
  simpa [AV.shift,AT.shift,AC.shift,aO]using this)
end
theorem jU(bs:List Int)(hl:bs.length<=1048576):dr prog 8 [.c (.view (vw pk bs))] fun res ha=>∃(xs:List Int),xs.length=12/\(∀x∈xs,0<=x/\x<10000)/\res= .o 0/\ha=[⟨3,1,vw aj xs⟩]:=by
 have cn:=ot bs hl
 have cb:=fun(i h n:Int)(hi:0<=i)=>lM bs hl i h n hi
 obtain⟨V,hV⟩:=nmE (vw pk bs)
 simp only [<-hV]at cn cb⊢
 refine ae (aM Tryz.f8) aB Tryz.func8 fun g F hg hF=> ?_
 cbv
 refine zJ hg cn fun hv=> ?_
 cbv
 refine gV hg aB (by kernel_rfl) (fun s:(Int×List Int×LLA)×Int×Int=>[(3,.p 0),(4,.o 1),(5,.i (s.1.1))]) (fun s=>[.bx 73 3 (Cur V s.2.1 s.2.2),.rw ⟨3,1,s.1.2.2⟩]) (fun s=>0<=s.1.1/\s.1.1<=12/\(s.1.2.1.length:Int)=s.1.1/\s.1.2.2=vw aj s.1.2.1/\0<=s.2.1/\∀x∈s.1.2.1,0<=x/\x<10000) (fun s=>12-s.1.1.toNat)
  ((0,[],[]),0,hv) ⟨by simp,by simp,by simp,rfl,by simp,by simp⟩ (Wk.weak (wkG [some 0,some 1] zr3 ⟨wqE rfl rfl,wqE rfl rfl,trivial⟩ (by decide) ay)) (fun s B hs hB=> ?_)
 obtain⟨⟨z,xs,eX⟩,i,h⟩:=s
 obtain⟨h0,h1,h2,h3,h4,h5⟩:=hs
 dsimp only at h0 h1 h2 h3 h4 h5
 have hb:eX.length<=1048576:=by rw [h3,ak];omega
 have pX:=pmV h3
 have ez:g .w .add .i64 z 1=z+1:=by rw [aI hg];exact wr1 (by omega) (by omega)
 have hd:∀f,((xs++[f]).length:Int)=z+1:=fun f=>by simp;omega
 have hj:¬z<12->xs.length=12:=fun h=>by omega
 have tz:g .q .lss z 12=decide (z<12):=bA hg _ _
 cbv
 rw [tz]
 by_cases hzx:z<12
 ·rw [zqu hzx]
  cbv
  refine n6 hg 0 (cb _ _ _ h4) rfl rfl fun i2 k2 res hc hq=> ?_
  obtain⟨x,rfl,he,hf,_⟩:=hq
  have hh:=hf (by decide)
  have aX:eX++[[.J x]]=vw aj (xs++[x]):=by rw [wi,h3];rfl
  cbv
  refine fU hg rfl (by decide) hb ?_
  cbv
  rw [ez,jo hg]
  subst hB
  exact⟨((z+1,xs++[x],_),i2,k2),⟨by simp only;omega,by simp only;omega,hd _,aX,hc,fun y hy=>by
   rcases List.mem_append.1 hy with hy|hy
   ·exact h5 y hy
   ·rw [List.mem_singleton.1 hy];exact⟨he,hh⟩⟩,by simp only;omega,Wk.weak (wkG [some 0,some 3] zr3 ⟨wqE rfl rfl,⟨_,_,rfl,rfl,rfl,rfl,.inl ⟨rfl,aX.symm▸aC _ _⟩⟩,trivial⟩ (by decide) ay)⟩
 ·rw [zqt hzx]
  cbv
  exact CV ⟨3,1,eX⟩ hF rfl pX ⟨xs,hj hzx,h5,rfl,by rw [h3]⟩
variable {P:Program}
theorem tj{H:Type}{enc:TypeId×Value->H}{w:World}{r:Reach}{b0:Nat}{mE:Bool}{T te:TypeId}{v:Value}{d:DataW H}{p:List MemPlace}
  (hl:laidOutB P=true) (hu:P.underlying te=some (.int .u8)) (hlt:te<P.types.size) (ht:P.underlying T=some (.slice te))
  (hft:rr P 5 te=some [te]) (hC:P.cellsOf te=1) (h:DataW.Trod enc P w 0 (fun _=>true) mE T v d p) (hv:Value.okWide P w r b0 T v):
  ∃xs:List Int,Ah 1 pk w v xs:=by
 obtain⟨a0,n0,c0,rfl⟩:=okWide_slice ht hv
 obtain⟨hk,hf⟩:=h
 rcases Go.Deep.open_slice ht hf with⟨hcs,_⟩|⟨a,len,cap,m,n,D,Pl,hcs,hba,hlc,hm,hmm,hx,hel⟩
 ·simp [Value.cells]at hcs
  obtain⟨rfl,rfl,rfl⟩:=hcs
  exact⟨[],none,0,rfl,by simp,by simp,by simp⟩
 ·simp [Value.cells]at hcs
  obtain⟨rfl,rfl,rfl⟩:=hcs
  have hz:∀i,i<n0->∃x:Int,a.spot=none/\w.cell? ⟨a.block,a.off+i,none⟩=some (.int .u8 x):=by
   intro i hj
   obtain⟨hA,hc,hw⟩:=hel i (by rw [hmm];simp;omega)
   rw [hC]at hc
   obtain⟨_,hE,hp⟩:=World.cells?_some hc
   have h1:=kx hl 5 te _ n _ _ hlt hft hw
   obtain⟨c,f',y,hq,hy⟩:=h1.2 0 te rfl
   obtain⟨k,h2,_,_⟩:=DataW.trod_int hu hy
   simp only [List.cons.injEq,and_true]at h2
   subst h2
   have ha:=hp 0 (by omega)
   rw [hq]at ha
   have hd:a.spot=none:=by
    obtain⟨hB,hb,hh⟩:=hel 0 (by rw [hmm];simp;omega)
    rw [hC]at hb
    obtain⟨_,hG,he⟩:=World.cells?_some hb
    have ho:=kx hl 5 te _ n _ _ hlt hft hh
    obtain⟨c',hD,y',hg,_⟩:=ho.2 0 te rfl
    have h4:=he 0 (by omega)
    rw [hg]at h4
    have h5:=pJ h4
    simpa [Addr.add]using h5
   refine⟨k,hd,?_⟩
   have:=xy a hd (i*1) 0
   simp only [Nat.mul_one,Nat.add_zero]at this
   rw [<-this]
   simpa using ha
  obtain⟨f,hi⟩:∃f:Nat->Int,∀i,i<n0->a.spot=none/\w.cell? ⟨a.block,a.off+i,none⟩=some (.int .u8 (f i)):=Go.Deep.choose_lt hz
  refine⟨(List.range n0).map f,some a,c0,by simp,by simpa using hlc,hm,fun h0=> ?_⟩
  have hn:0<n0:=by simpa using h0
  obtain⟨hd,_⟩:=hi 0 hn
  refine⟨a.block,a.off,by obtain⟨b,o,s⟩:=a;simp only at hd;subst hd;rfl,fun i hj j hF=> ?_⟩
  have hr:i<n0:=by simpa using hj
  obtain⟨_,h3⟩:=hi i hr
  have hs:j=0:=by omega
  subst hs
  exact⟨.int .u8 (f i),by simp,by simpa using h3⟩
section
variable {P:Program}{n0 N:Nat}{g:Gd}
end
theorem tt(bs:List Int):PC0 7 [.c (.view (vw pk bs))] (.t (abl (decide (1048576<(bs.length:Int))))):=by
 obtain⟨V,hV⟩:=nmE (vw pk bs)
 obtain⟨q,hq⟩:=nmE (decide (1048576<(bs.length:Int)))
 have ha:az V=(bs.length:Int):=by rw [hV,aw,ak]
 rw [<-hV,<-hq]
 rw [<-ha]at hq
 refine ae (aM Tryz.f7) aB Tryz.func7 fun g F hg hF=> ?_
 cbv
 exact aP hF (by rw [dp hg,bG hg,hq])
theorem q8{f:FuncId}{args:List AT}{T:LLA}{C:Int}(hc:yq P f args fun lo res ha=>(∃b0,res= .tup [.agg [.fv b0 T],ai C]/\jl lo b0)/\eP res=true/\ha=[]):dr P f args fun res ha=>res= .tup [.agg [.view T],ai C]/\ha=[]:=by
 have h0:=hc 0
 refine⟨h0.1,fun F w m vs hH hl hx=>(h0.2 F w m vs hH hl hx).mono fun e w'⟨v,res,h',m',F',he,hp,hG,hs,hv⟩=> ?_⟩
 obtain⟨ha,hh,⟨b0,hr,-⟩,-,hw⟩:=hp
 subst hr hw
 refine⟨v,.tup [.agg [.view T],ai C],h',m',F',he,⟨[],hh,rfl,rfl⟩,hG,hs,?_⟩
 obtain⟨us,h1,h2,h3⟩:=hv
 refine⟨us,h1,h2,fun j x hj=> ?_⟩
 match j,hj with
 |0,hj=>
  obtain⟨u,hu,hb,g1,g2,g3⟩:=h3 0 _ rfl
  obtain rfl:AT.agg [.view T]=x:=by simpa using hj
  refine⟨u,hu,hb,g1,g2,fun i c hi=> ?_⟩
  match i,hi with
  |0,hi=>
   obtain⟨u',k1,k2,k3⟩:=g3 0 _ rfl
   obtain rfl:AC.view T=c:=by simpa using hi
   exact⟨u',k1,k2,SP.rp k3⟩
  |i+1,hi=>simp at hi
 |1,hj=>
  obtain⟨u,hu,hr⟩:=h3 1 _ rfl
  obtain rfl:ai C=x:=by simpa using hj
  exact⟨u,hu,hr⟩
 |j+2,hj=>simp at hj
theorem wJ{f:FuncId}{xs:List AT}{Post:AV->List AB->Prop}(hc:dr P f (.agg [.view []]::xs) Post):dr P f (.agg [.N]::xs) Post:=
 ⟨hc.1,fun F w m vs hH hl hx=>hc.2 F w m vs hH (by simpa using hl) fun j x hj=>by
  match j,hj with
  |0,hj=>
   obtain⟨v,hv,us,g1,g2,g3⟩:=hx 0 _ rfl
   obtain rfl:AT.agg [.view []]=x:=by simpa using hj
   refine⟨v,hv,us,g1,g2,fun i c hi=> ?_⟩
   match i,hi with
   |0,hi=>
    obtain⟨u,k1,k2,k3⟩:=g3 0 _ rfl
    obtain rfl:AC.view []=c:=by simpa using hi
    exact⟨u,k1,k2,none,0,k3,Nat.le_refl _,Nat.zero_le _,.inl rfl⟩
   |i+1,hi=>simp at hi
  |j+1,hj=>exact hx (j+1) x hj⟩
theorem iR(ns:List af)(hl:ns.length<=1048576)(hs:∀y∈ns,af.small y)(s:ah):PC0 10 [.agg [.view (vwA af.ac ns)],.agg (lc (ah.c s))] (.tup [.agg [.view (vwA af.ac (sU ns s))],ai (t9 ns s)]):=
 q8 (m6 ns hl hs s)
theorem kF(ns:List af)(hl:ns.length<=1048576)(hs:∀y∈ns,af.small y)(n kid p:Int):PC0 12 [.agg [.view (vwA af.ac ns)],ai n,ai kid,ai p] (.tup [.agg [.view (vwA af.ac (inN ns n kid p))],ai (inI ns n kid p)]):=
 q8 (kI ns hl hs n kid p)
theorem lO(ns:List af)(hl:ns.length<=1048576)(hs:∀y∈ns,af.small y)(n:Int)(s:ah):PC0 14 [.agg [.view (vwA af.ac ns)],ai n,.agg (lc (ah.c s))] (.tup [.agg [.view (vwA af.ac (seN ns n s))],ai (seI ns n s)]):=
 q8 (lP ns hl hs n s)
theorem gY(ns:List af)(hl:ns.length<=1048576)(hs:∀y∈ns,af.small y)(n a b c d:Int)(rtl:Bool):PC0 13 [.agg [.view (vwA af.ac ns)],ai n,agP ⟨a,b⟩,agP ⟨c,d⟩,abl rtl] (.t (.agg (kD.ac (sbO ns n ⟨a,b⟩ ⟨c,d⟩ rtl)))):=
 qe (mA ns hl hs n a b c d rtl) (xG (c:=aF.c) (k:=5) fun _=>rfl) pz
theorem jT(bs:List Int)(hl:bs.length<=1048576):dr prog 8 [.c (.view (vw pk bs))] fun res ha=>(∃(xs:List Int),xs.length=12/\(∀x∈xs,0<=x/\x<10000)/\res= .t (.c (.view (vw aj xs))))/\ha=[]:=
 me (jU bs hl) fun res ha⟨xs,h1,h2,e1,e2⟩=>by
  subst e1 e2
  exact⟨.t (.c (.view (vw aj xs))),[],bL (sl1 0 _) (jW rfl (xG (c:=aj) (k:=1) fun _=>rfl) pz) (Wk.weak (wkG [] zr1 trivial (by decide) ay)),⟨xs,h1,h2,rfl⟩,rfl⟩
theorem lN:PC0 17 [] (.t (.agg (lc (ah.c CN)))):=by
 refine ae (aM f17) aB func17 fun g F hg hF=> ?_
 cbv
 exact py hF rfl ⟨rfl,rfl⟩
theorem qm:PC0 9 [] (.t (.agg (lc (ah.c u6)))):=by
 have c0:=lN
 refine ae (aM Tryz.f9) aB Tryz.func9 fun g F hg hF=> ?_
 cbv
 repeat'((first|refine ad hg c0 ?_|refine aa hg c0 ?_);cbv)
 exact py hF rfl ⟨rfl,rfl⟩
theorem kw(n:Int):PC0 11 [ai n] (.t (.agg [.J 1,.J n])):=by
 refine ae (aM f11) aB func11 fun g F hg hF=> ?_
 cbv
 exact py hF rfl ⟨rfl,rfl⟩
def tW:ah:={u6 with width:=⟨1,40⟩,height:=⟨1,10⟩}
def qM(w:Int):ah:={u6 with wrap:=w}
def pt(k:Nat):List af:=v9 (fun _=>tW) (sU [] (qM 2)) k
def zU(k:Nat):List af:=seN (pt k) 1 (qM 3)
def Ce(k:Nat)(b c:kD):Bool:=b.high==10*(((k:Int)+1).tdiv 2)&&b.frames.length==k&&c.frames.length==k&&(List.range k).all fun i=>match b.frames[i]?,c.frames[i]? with
 |some f,some e=>f.x==40*((i:Int).tmod 2)&&f.y==10*((i:Int).tdiv 2)&&e.y==b.high-f.y-10
 |_,_=>false
theorem yz{k:Nat}{b c:kD}(h:Ce k b c=true):b.high=10*(((k:Int)+1).tdiv 2)/\b.frames.length=k/\c.frames.length=k/\∀z:Int,0<=z->z<(k:Int)->∃f e,b.frames[z.toNat]? =some f/\c.frames[z.toNat]? =some e/\f.x=40*(z.tmod 2)/\f.y=10*(z.tdiv 2)/\e.y=b.high-f.y-10:=by
 unfold Ce at h
 simp only [zqs,beq_iff_eq,zqf,List.mem_range]at h
 obtain⟨⟨⟨h1,h2⟩,h3⟩,h4⟩:=h
 refine⟨h1,h2,h3,fun z z0 zk=> ?_⟩
 have h5:=h4 z.toNat (by omega)
 split at h5
 ·rename_i f e hf he
  simp only [zqs,beq_iff_eq]at h5
  rw [Int.toNat_of_nonneg z0]at h5
  exact⟨f,e,hf,he,h5.1.1,h5.1.2,h5.2⟩
 ·cases h5
def C2(k:Nat):List af:=⟨0,(List.range k).map (fun i:Nat=>(i:Int)+2),qM 2,false,⟨[]⟩⟩::List.replicate k ⟨1,[],tW,false,⟨[]⟩⟩
theorem wg:∀k∈[2,3,4,5,6],pt k=C2 k:=by decide+kernel
theorem yy:∀k∈[2,3,4,5,6],Ce k (sbO (pt k) 1 ⟨3,100⟩ ⟨1,0⟩ false) (sbO (zU k) 1 ⟨3,100⟩ ⟨1,0⟩ false)=true:=by decide+kernel
theorem wh{q:Int}(h:0<=q):∃k:Nat,(k:Int)=2+q.tmod 5/\k∈[2,3,4,5,6]:=by
 have m1:=Int.tmod_lt_of_pos q (show(0:Int)<5 by decide)
 have m2:=Int.tmod_nonneg 5 h
 refine⟨(2+q.tmod 5).toNat,by omega,?_⟩
 obtain⟨r,hr⟩:=nmE (q.tmod 5)
 rw [<-hr]at m1 m2⊢
 simp only [List.mem_cons,List.not_mem_nil,or_false]
 omega
theorem kO(bs:List Int)(hbl:bs.length<=9223372036854775807):PC0 6 [.c (.view (vw pk bs))] (.t (abl true)):=by
 have cg:=tt bs
 by_cases h6:bs.length<=1048576
 case neg=>
  rw [zqu (by omega)]at cg
  obtain⟨V,hV⟩:=nmE (vw pk bs)
  rw [<-hV]at cg⊢
  refine ae (aM Tryz.f6) aB Tryz.func6 fun g F hg hF=> ?_
  cbv
  (first|refine ad hg (cg) ?_|refine aa hg (cg) ?_);cbv
  exact aP hF rfl
 rw [zqt (by omega)]at cg
 have c2:=jT bs h6
 have hi:=qm
 have hr:=kw 40
 have ht:=kw 10
 have hm:=wJ (iR [] (by simp) (by simp) (qM 2))
 have hM:=rC [] (by simp) (by simp) (qM 2)
 obtain⟨V,hV⟩:=nmE (vw pk bs)
 rw [<-hV]at cg c2⊢
 obtain⟨I0,hI⟩:=nmE (t9 [] (qM 2))
 obtain⟨T0,hA⟩:=nmE (vwA af.ac (sU [] (qM 2)))
 rw [<-hI,<-hA]at hm
 refine jz ([(6,.hand),(15,.hand),(24,.hand)]) ([]) (c:=aM Tryz.f6) aB Tryz.func6 (by kernel_rfl) (by kernel_rfl) (by rfl) (by kernel_rfl) fun g h9 hd F hb hl hg hF=> ?_
 cbv
 (first|refine ad hg (cg) ?_|refine aa hg (cg) ?_);cbv
 refine pi hg (d9 c2 rfl fun res h7 hq=> ?_)
 obtain⟨⟨ps,h4,hp,rfl⟩,rfl⟩:=hq
 obtain⟨q,hq⟩:∃q,ps[(0:Int).toNat]? =some q:=⟨_,zqc (by rw [h4];decide)⟩
 obtain⟨k,hk,hE⟩:=wh (hp q (zqd hq)).1
 have h3:(k:Int)<=6:=by
  have:=Int.tmod_lt_of_pos q (show(0:Int)<5 by decide)
  omega
 obtain⟨K,hK⟩:∃K:Int,K=(k:Int):=⟨_,rfl⟩
 have ek:g .w .add .i64 2 (g .w .rem .i64 q 5)=K:=by
  have m1:=Int.tmod_lt_of_pos q (show(0:Int)<5 by decide)
  have m2:=Int.tmod_nonneg 5 (hp q (zqd hq)).1
  rw [aI hg,tx hg,hK,hk]
  exact aq _ (by omega)
 have hX:0<=K:=by omega
 have xa:K<=6:=by omega
 have hJ:K.toNat=k:=by omega
 obtain⟨W,hW⟩:=nmE (vw aj ps)
 have h5:W[(0:Int).toNat]? =some [.J q]:=by rw [hW];exact bk hq
 rw [<-hW]
 have hc:=yy k hE
 have hQ:=wg k hE
 clear hk hE h3
 refine⟨[],rfl,?_⟩
 cbv
 repeat'((first|refine ad hg hi ?_|refine aa hg hi ?_);cbv)
 refine lw [] [] hb hl hg aB [(3,.v W),(4,.p 0),(5,.p 1)] [.bx 34 60 (lc (ah.c (qM 2))),.bx 38 1 [.view T0]] (by kernel_rfl) (fun B' hj=> ?_) ?_
 ·cbv
  repeat'((first|refine ad hg hm ?_|refine aa hg hm ?_);cbv)
  skip
  exact hj _ _ (Wk.weak (wkG [some _,some _] zr3 ⟨wqE rfl rfl,wqE rfl rfl,trivial⟩ (by decide) ay))
 cbv
 (repeat'((first|rw [ek]|refine goX hg _ (by omega) h5 rfl ?_|refine zq hg (by decide) ?_);cbv))
 refine ir [(15,.hand)] [] hb hl hg aB (by kernel_rfl) (fun s:Int×LLA=>[(4,.p 0),(5,.p 1),(7,.i (K)),(8,.i (s.1))]) (fun s=>[.bx 34 60 (lc (ah.c (qM 2))),.bx 38 1 [.view s.2]]) (fun s=>0<=s.1/\s.1<=K/\s.2=vwA af.ac (pt s.1.toNat)) (fun s=>6-s.1.toNat)
  (0,T0) ⟨by simp,hX,hA⟩ (Wk.weak (wkG [some _,some _] zr4 ⟨wqE rfl rfl,wqE rfl rfl,trivial⟩ (by decide) ay)) (fun s B hs hB=> ?_)
 obtain⟨z,E⟩:=s
 obtain⟨h0,h1,h2⟩:=hs
 dsimp only at h0 h1 h2
 have tz:g .q .lss z K=decide (z<K):=bA hg _ _
 have ha:=sV (fun _=>tW) _ hM.1 hM.2 z.toNat
 change(pt z.toNat).length<=1048576/\∀y∈pt z.toNat,af.small y at ha
 by_cases hz:z<K
 ·have ez:g .w .add .i64 z 1=z+1:=by rw [aI hg];exact wr1 (by omega) (by omega)
  rw [zqu hz]at tz
  have cA:=iR _ ha.1 ha.2 tW
  have hH:=rC _ ha.1 ha.2 tW
  have cI:=kF _ hH.1 hH.2 1 (t9 (pt z.toNat) tW) z
  have hP:vwA af.ac (inN (sU (pt z.toNat) tW) 1 (t9 (pt z.toNat) tW) z)=vwA af.ac (pt (z+1).toNat):=by
   obtain⟨n,rfl⟩:∃n:Nat,z=(n:Int):=⟨z.toNat,by omega⟩
   rw [show((n:Int)+1).toNat=n+1 by omega,Int.toNat_natCast]
   rfl
  rw [hP]at cI
  obtain⟨M3,hL⟩:=nmE (vwA af.ac (pt (z+1).toNat))
  obtain⟨M2,hw⟩:=nmE (vwA af.ac (sU (pt z.toNat) tW))
  obtain⟨n2,hG⟩:=nmE (t9 (pt z.toNat) tW)
  obtain⟨k2,hO⟩:=nmE (inI (sU (pt z.toNat) tW) 1 (t9 (pt z.toNat) tW) z)
  rw [<-hO,<-hL,<-hw,<-hG]at cI
  rw [<-h2,<-hw,<-hG]at cA
  clear hw hG hO hP ha hH hc hQ
  cbv
  (repeat'((first|rw [tz]|refine ad hg hi ?_|refine aa hg hi ?_|refine ad hg hr ?_|refine aa hg hr ?_);cbv))
  (repeat'((first|rw [tz]|refine ad hg ht ?_|refine aa hg ht ?_);cbv))
  refine lw [] [] hb hl hg aB [(4,.p 0),(5,.p 1),(7,.i (K)),(8,.i (z)),(10,.i (n2))] [.bx 34 60 (lc (ah.c (qM 2))),.bx 38 1 [.view M2]] (by kernel_rfl) (fun B' hj=> ?_) ?_
  ·cbv
   repeat'((first|refine ad hg cA ?_|refine aa hg cA ?_);cbv)
   skip
   exact hj _ _ (Wk.weak (wkG [some _,some _] zr5 ⟨wqE rfl rfl,wqE rfl rfl,trivial⟩ (by decide) ay))
  cbv
  repeat'((first|refine ad hg cI ?_|refine aa hg cI ?_);cbv)
  rw [ez]
  skip
  subst hB
  exact⟨(z+1,M3),⟨by simp only;omega,by simp only;omega,hL⟩,by simp only;omega,Wk.weak (wkG [some _,some _] zr4 ⟨wqE rfl rfl,wqE rfl rfl,trivial⟩ (by decide) ay)⟩
 ·rw [zqt hz]at tz
  obtain rfl:z=K:=by omega
  rw [hJ]at ha h2
  have cb:=gY _ ha.1 ha.2 1 3 100 1 0 false
  have cS:=lO _ ha.1 ha.2 1 (qM 3)
  have ho:=Av _ ha.1 ha.2 1 (qM 3)
  change(zU k).length<=1048576/\(∀y∈zU k,af.small y)/\_ at ho
  change PC0 _ _ (.tup [.agg [.view (vwA af.ac (zU k))],ai (seI (pt k) 1 (qM 3))])at cS
  have hh:=gY _ ho.1 ho.2.1 1 3 100 1 0 false
  obtain⟨w3,xd⟩:=nmE (qM 3)
  obtain⟨U,hU⟩:=nmE (vwA af.ac (zU k))
  obtain⟨uk,hR⟩:=nmE (seI (pt k) 1 (qM 3))
  obtain⟨bx,hC⟩:=nmE (sbO (pt k) 1 ⟨3,100⟩ ⟨1,0⟩ false)
  obtain⟨cx,hD⟩:=nmE (sbO (zU k) 1 ⟨3,100⟩ ⟨1,0⟩ false)
  rw [<-hC,<-hD]at hc
  rw [<-hC,<-h2]at cb
  rw [<-hD,<-hU]at hh
  rw [<-h2,<-hU,<-hR]at cS
  obtain⟨g1,g2,g3,g4⟩:=yz hc
  clear hC hD hc hQ ha ho hi hr ht hm hA hI hR hU
  obtain⟨bw,bh,bb,fr⟩:=bx
  obtain⟨cw,ch,cc,er⟩:=cx
  dsimp only at g1 g2 g3 g4
  obtain⟨FR,hv⟩:=nmE (vw aF.c fr)
  obtain⟨ER,hu⟩:=nmE (vw aF.c er)
  have hn:((k:Nat):Int)=z:=by omega
  have hT:az FR=z:=by rw [hv,aw,ak,g2,hn]
  have hS:az ER=z:=by rw [hu,aw,ak,g3,hn]
  replace cb:PC0 13 [.agg [.view E],ai 1,agP ⟨3,100⟩,agP ⟨1,0⟩,abl false] (.t (.agg [.J bw,.J bh,.J bb,.view FR])):=by rw [hv];exact cb
  replace hh:PC0 13 [.agg [.view U],ai 1,agP ⟨3,100⟩,agP ⟨1,0⟩,abl false] (.t (.agg [.J cw,.J ch,.J cc,.view ER])):=by rw [hu];exact hh
  rw [hn]at g1 g4
  have tl:g .q .neq (g .ln FR) z=false:=by rw [dg hg,bG hg,hT];simp
  have h8:g .q .neq (g .ln ER) z=false:=by rw [dg hg,bG hg,hS];simp
  have e1:g .w .add .i64 z 1=z+1:=by rw [aI hg];exact wr1 (by omega) (by omega)
  have e2:g .w .mul .i64 10 (g .w .quo .i64 (z+1) 2)=bh:=by
   rw [gH hg,xc hg,g1]
   have a1:0<=(z+1).tdiv 2:=Int.tdiv_nonneg (by omega) (by decide)
   have a2:(z+1).tdiv 2<=z+1:=Int.tdiv_le_self _ (by omega)
   rw [aq ((z+1).tdiv 2) (by omega)]
   exact aq _ (by omega)
  have t1:g .q .neq bh bh=false:=by rw [dg hg];simp
  have xb:0<=bh/\bh<=1000:=by
   have a1:0<=(z+1).tdiv 2:=Int.tdiv_nonneg (by omega) (by decide)
   have a2:(z+1).tdiv 2<=z+1:=Int.tdiv_le_self _ (by omega)
   omega
  clear g1 g2 g3 h2 hK hJ hn
  cbv
  (repeat'((first|rw [tz]|rw [e1]|rw [e2]|rw [t1]|rw [tl]|refine ad hg cb ?_|refine aa hg cb ?_|refine zq hg (by decide) ?_);cbv))
  refine lw [] [] hb hl hg aB [(7,.i (z)),(11,.p 0),(12,.p 1),(13,.p 2),(15,.p 3)] [.bx 44 2 [.J 3,.J 100],.bx 44 2 [.J 1,.J 0],.bx 47 4 [.J bw,.J bh,.J bb,.view FR],.bx 38 1 [.view U]] (by kernel_rfl) (fun B' hj=> ?_) ?_
  ·cbv
   repeat'((first|refine ad hg cS ?_|refine aa hg cS ?_);cbv)
   skip
   exact hj _ _ (Wk.weak (wkG [some _,some _,some _,some _] zr5 ⟨wqE rfl rfl,wqE rfl rfl,wqE rfl rfl,wqE rfl rfl,trivial⟩ (by decide) ay))
  cbv
  (repeat'((first|refine ad hg hh ?_|refine aa hg hh ?_);cbv))
  clear tz
  refine ir [] [] hb hl hg aB (by kernel_rfl) (fun s:Int=>[(7,.i (z)),(13,.p 0),(17,.p 1),(18,.i (s))]) (fun s=>[.bx 47 4 [.J bw,.J bh,.J bb,.view FR],.bx 47 4 [.J cw,.J ch,.J cc,.view ER]]) (fun s=>0<=s/\s<=z) (fun s=>6-s.toNat)
   0 ⟨by simp,h0⟩ (Wk.weak (wkG [some _,some _] zr4 ⟨wqE rfl rfl,wqE rfl rfl,trivial⟩ (by decide) ay)) (fun y B hs hB=> ?_)
  obtain⟨y0,y1⟩:=hs
  have tz:g .q .lss y z=decide (y<z):=bA hg _ _
  by_cases hz:y<z
  ·rw [zqu hz]at tz
   obtain⟨f,e,hf,he,hx,hy,hN⟩:=g4 y y0 hz
   obtain⟨fn,fx,fy,fw,fh⟩:=f
   obtain⟨en,ex,ey,ew,eh⟩:=e
   dsimp only at hx hy hN
   have hZ:FR[y.toNat]? =some [.J fn,.J fx,.J fy,.J fw,.J fh]:=by rw [hv];exact bk hf
   have hY:ER[y.toNat]? =some [.J en,.J ex,.J ey,.J ew,.J eh]:=by rw [hu];exact bk he
   have a1:0<=y.tdiv 2:=Int.tdiv_nonneg y0 (by decide)
   have a2:y.tdiv 2<=y:=Int.tdiv_le_self _ y0
   have m1:=Int.tmod_lt_of_pos y (show(0:Int)<2 by decide)
   have m2:=Int.tmod_nonneg 2 y0
   have u1:g .w .mul .i64 40 (g .w .rem .i64 y 2)=fx:=by rw [gH hg,tx hg,hx];exact aq _ (by omega)
   have u2:g .w .mul .i64 10 (g .w .quo .i64 y 2)=fy:=by
    rw [gH hg,xc hg,hy,aq (y.tdiv 2) (by omega)]
    exact aq _ (by omega)
   have u3:g .w .sub .i64 (g .w .sub .i64 bh fy) 10=ey:=by
    rw [d4 hg,d4 hg,aq (bh-fy) (by omega),hN]
    exact aq _ (by omega)
   have q1:g .q .neq fx fx=false:=by rw [dg hg];simp
   have q2:g .q .neq fy fy=false:=by rw [dg hg];simp
   have q3:g .q .neq ey ey=false:=by rw [dg hg];simp
   have ez:g .w .add .i64 y 1=y+1:=by rw [aI hg];exact wr1 (by omega) (by omega)
   clear a1 a2 m1 m2
   cbv
   (repeat'((first|rw [tz]|rw [u1]|rw [u2]|rw [u3]|rw [q1]|rw [q2]|rw [q3]|rw [h8]|rw [ez]|refine goX hg _ (by omega) hZ rfl ?_|refine goX hg _ (by omega) hY rfl ?_|refine zq hg (by decide) ?_);cbv))
   skip
   subst hB
   exact⟨y+1,⟨by omega,by omega⟩,by omega,Wk.weak (wkG [some _,some _] zr4 ⟨wqE rfl rfl,wqE rfl rfl,trivial⟩ (by decide) ay)⟩
  ·rw [zqt hz]at tz
   cbv
   (repeat'(rw [tz];cbv))
   exact aP hF rfl
end Go.Proofs.YtbnplcingdgaaaaGreat
