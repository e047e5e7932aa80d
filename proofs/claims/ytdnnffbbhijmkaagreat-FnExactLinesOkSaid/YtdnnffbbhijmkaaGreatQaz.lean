/- impl's children in the flow, their row sorted. -/
import Derived.Shelf.Lay
import Derived.Ground.GgtProg
import Derived.Test.YtdnnffbbhijmkaaGreatQay
set_option linter.unusedVariables false
set_option linter.unusedSimpArgs false
set_option maxHeartbeats 16000000
namespace Go.Proofs.YtdnnffbbhijmkaaGreat
open Go.ChangeShapes Go.WideShapes Go.ChangeAt Go.RowKit Am Go.Proofs.Tryz
set_option maxRecDepth 100000
theorem uq(ns:List ak)(hl:ns.length≤1048576)(hs:∀y∈ns,y.small):PC0 79 [.agg [.view (vwA ak.ac ns)]] (.t (abl (eo ns))):=by
 obtain⟨V,hV⟩:=nmE (vwA ak.ac ns)
 have hVx:bg V=(ns.length:Int):=by rw [aB,hV,bE]
 have hV0:0≤bg V:=by omega
 have hV1:bg V≤1048576:=by omega
 have hisN:∀n,isN ns n=rng n 1 (bg V):=fun n=>by rw [hVx];rfl
 have cD:=fun n=>r5 ns n hl
 obtain⟨R,hR⟩:=nmE (eo ns)
 rw [←hR]
 rw [←hV]at cD⊢
 refine ae (aK f79) aD func79 fun g F hg hF=> ?_
 cbv
 cases h12:g .q .gtr (g .ln V) 12
 case true=>
  rw [cj hg,bD hg,zqp]at h12
  cbv
  exact bj hF (by rw [hR,xh hVx (by omega)])
 rw [cj hg,bD hg,zqo]at h12
 cbv
 refine bU hg aD (by kernel_rfl) (fun z:Int=>[(1,.p 0),(16,.v V),(17,.i (g .ln V)),(18,.i z)]) (fun _=>[.bx 32 1 [.view V]]) (fun z=>0≤z∧z≤bg V∧∀(i:Nat)(x:ak),i<z.toNat→ns[i]? =some x→fo ns ((i:Int)+1) x=true) (fun z=>(bg V).toNat-z.toNat)
  0 [some 0] ⟨Int.le_refl 0,hV0,fun i x hi=>by simp at hi⟩ (wkS [0] (by decide) ⟨⟨_,rfl,rfl,rfl⟩,trivial⟩ ⟨rfl,rfl,rfl,rfl,trivial⟩) (fun z B hst hB=> ?_)
 obtain⟨h0,h1,h2⟩:=hst
 cbv
 cases hc:g .q .lss z (g .ln V)
 ·rw [bn hg,bD hg,zqo]at hc
  cbv
  exact bj hF (by rw [hR,xg hVx (by omega) (by omega) h2])
 rw [bn hg,bD hg,zqp]at hc
 cbv
 obtain⟨x,hx⟩:=qT (xs:=ns) h0 (gJ hVx hc)
 have hyy:V[z.toNat]? =some x.ac:=by rw [hV];exact gV hx
 have hsx:=hs x (zqd hx)
 have hno:fo ns (z+1) x=false→R=false:=fun h=>by rw [hR];exact zi h0 hx h
 have hin:=C1 hVx h0 hc
 have hat:=FJ hx
 obtain⟨n,hn⟩:=nmE (z+1)
 rw [←hn]at hno hin hat
 obtain⟨OK,hOK⟩:=nmE (fo ns n x)
 have hnode:=hOK
 rw [fo]at hnode
 rw [←hOK]at hno
 obtain⟨A,hA⟩:=nmE (zq x.style)
 obtain⟨Dp,hDp⟩:=nmE (uF ns n)
 obtain⟨Bd,hBd⟩:=nmE (rng Dp 1 4)
 obtain⟨C,hC⟩:=nmE (CH ns n x.up)
 obtain⟨D,hD⟩:=nmE (x.kids.all (gL ns n))
 obtain⟨E,hE⟩:=nmE (Gn x)
 have hup:Bd=true→x.up≠0→isN ns x.up=true:=fun hb hu=>Da (by omega) hin hat (by rw [←hDp,←hBd];exact hb) hu
 rw [←hA,←hDp,←hBd,←hC,←hD,←hE]at hnode
 have cA:=rU x.style
 have cDn:=cD n
 have cB:=bS Dp 1 4
 have cT:=rT x.table.rules
 rw [←hA]at cA
 rw [←hDp]at cDn
 rw [←hBd]at cB
 have h1':∀(i:Nat)(y:ak),i<(z+1).toNat→ns[i]? =some y→OK=true→fo ns ((i:Int)+1) y=true:=fun i y hi hy hk=>by
  by_cases hi2:i<z.toNat
  ·exact h2 i y hi2 hy
  ·obtain rfl:i=z.toNat:=by omega
   rw [hx]at hy
   cases hy
   rw [show((z.toNat:Nat):Int)+1=n by omega,←hOK];exact hk
 obtain⟨a0,a1,⟨a2,a3,a4,a5,a6,a7,a8,a9,a10,a11,a12,⟨a13,a14⟩,⟨a15,a16⟩,⟨a17,a18⟩,⟨a19,a20⟩,⟨a21,a22⟩,⟨a23,a24⟩,⟨a25,a26⟩,a27,⟨⟨a28,a29⟩,⟨a30,a31⟩,⟨a32,a33⟩,⟨a34,a35⟩,⟨a36,a37⟩,⟨a38,a39⟩⟩,⟨⟨a40,a41⟩,⟨a42,a43⟩,⟨a44,a45⟩,⟨a46,a47⟩,⟨a48,a49⟩,⟨a50,a51⟩⟩,⟨a52,a53,a54,a55⟩,⟨a56,a57,a58,a59⟩,a60,a61⟩,a62,⟨a63⟩⟩:=x
 obtain⟨sa1,sa63,-⟩:=hsx
 replace cT:=cT sa63
 simp only at hup hC hD hE cA cT
 replace hyy:V[z.toNat]? =some [.J a0,.view (vw ao a1),.J a2,.J a3,.J a4,.J a5,.J a6,.J a7,.B a8,.B a9,.J a10,.J a11,.J a12,.J a13,.J a14,.J a15,.J a16,.J a17,.J a18,.J a19,.J a20,.J a21,.J a22,.J a23,.J a24,.J a25,.J a26,.J a27,.J a28,.J a29,.J a30,.J a31,.J a32,.J a33,.J a34,.J a35,.J a36,.J a37,.J a38,.J a39,.J a40,.J a41,.J a42,.J a43,.J a44,.J a45,.J a46,.J a47,.J a48,.J a49,.J a50,.J a51,.J a52,.J a53,.J a54,.J a55,.J a56,.J a57,.J a58,.J a59,.J a60,.J a61,.B a62,.view (vw aJ.c a63)]:=hyy
 obtain⟨TK,hTK⟩:=nmE (Du a63)
 rw [←hTK]at cT
 obtain⟨Va1,hVa1⟩:=nmE (vw ao a1)
 obtain⟨Va63,hVa63⟩:=nmE (vw aJ.c a63)
 have la1:=qx hVa1
 have la63:=qx hVa63
 have pa1:0≤bg Va1:=by omega
 have qa1:bg Va1≤1048576:=by omega
 rw [←hVa1,←hVa63]at hyy
 rw [←hVa63]at cT
 have e1:g .w .add .i64 z 1=n:=by rw [aM hg,aC _ (by omega),hn]
 refine goX hg _ h0 hyy rfl ?_
 cbv
 rw [e1]
 (first|refine ad hg cA ?_|refine aa hg cA ?_)
 cases A
 case false=>
  cbv
  exact bj hF (hno hnode).symm
 cbv
 (first|refine ad hg cDn ?_|refine aa hg cDn ?_)
 cbv
 (first|refine ad hg cB ?_|refine aa hg cB ?_)
 cases Bd
 case false=>
  cbv
  exact bj hF (hno (by rw [hnode];rfl)).symm
 replace hup:=hup rfl
 have hE2:E= !((a62&&(!TK||decide (0<bg Va1)))||(!a62&&decide (0<bg Va63))):=by rw [hE,hTK,la1,la63];rfl
 clear hE hTK
 cbv
 refine bU hg aD (by kernel_rfl) (fun j:Int=>[(1,.p 0),(4,.p 1),(5,.i n),(16,.v V),(17,.i (g .ln V)),(18,.i z),(37,.v Va1),(38,.i (g .ln Va1)),(39,.i j)]) (fun _=>[.bx 32 1 [.view V],.bx 148 64 [.J a0,.view Va1,.J a2,.J a3,.J a4,.J a5,.J a6,.J a7,.B a8,.B a9,.J a10,.J a11,.J a12,.J a13,.J a14,.J a15,.J a16,.J a17,.J a18,.J a19,.J a20,.J a21,.J a22,.J a23,.J a24,.J a25,.J a26,.J a27,.J a28,.J a29,.J a30,.J a31,.J a32,.J a33,.J a34,.J a35,.J a36,.J a37,.J a38,.J a39,.J a40,.J a41,.J a42,.J a43,.J a44,.J a45,.J a46,.J a47,.J a48,.J a49,.J a50,.J a51,.J a52,.J a53,.J a54,.J a55,.J a56,.J a57,.J a58,.J a59,.J a60,.J a61,.B a62,.view Va63]]) (fun j:Int=>0≤j∧j≤bg Va1∧∀(i:Nat)(v:Int),i<j.toNat→a1[i]? =some v→gL ns n v=true) (fun j=>(bg Va1).toNat-j.toNat)
  0 [some 0,some 1] ⟨Int.le_refl 0,pa1,fun i v hi=>by simp at hi⟩ (wkS [0,1] (by decide) ⟨⟨_,rfl,rfl,rfl⟩,⟨_,rfl,rfl,rfl⟩,trivial⟩ ⟨rfl,rfl,rfl,rfl,rfl,rfl,rfl,rfl,rfl,trivial⟩) (fun j B2 hst2 hB2=> ?_)
 obtain⟨k0,k1,k2⟩:=hst2
 cbv
 cases hk:g .q .lss j (g .ln Va1)
 case true=>
  rw [bn hg,bD hg,zqp]at hk
  cbv
  obtain⟨y,hy⟩:=qT (xs:=a1) k0 (gJ la1 hk)
  have hyk:Va1[j.toNat]? =some (lc (ao y)):=by rw [hVa1];exact bh hy
  have ci:=jy V y
  rw [←hisN y]at ci
  refine goX hg _ k0 hyk rfl ?_
  cbv
  cases hik:isN ns y
  ·rw [hik]at ci
   have hDf:D=false:=by rw [hD];exact oe hy (by rw [gL,hik];rfl)
   (first|refine ad hg ci ?_|refine aa hg ci ?_)
   cbv
   exact bj hF (hno (by rw [hnode,hDf];simp)).symm
  rw [hik]at ci
  (first|refine ad hg ci ?_|refine aa hg ci ?_)
  obtain⟨i1,i2,x,hxc⟩:=bF hik
  have hi2:y≤1048576:=Int.le_trans (qy hVx i2) hV1
  have hyc:V[(y-1).toNat]? =some x.ac:=by rw [hV];exact gV hxc
  have hupc:=sj hxc
  obtain⟨c0,c1,⟨c2,c3,c4,c5,c6,c7,c8,c9,c10,c11,c12,⟨c13,c14⟩,⟨c15,c16⟩,⟨c17,c18⟩,⟨c19,c20⟩,⟨c21,c22⟩,⟨c23,c24⟩,⟨c25,c26⟩,c27,⟨⟨c28,c29⟩,⟨c30,c31⟩,⟨c32,c33⟩,⟨c34,c35⟩,⟨c36,c37⟩,⟨c38,c39⟩⟩,⟨⟨c40,c41⟩,⟨c42,c43⟩,⟨c44,c45⟩,⟨c46,c47⟩,⟨c48,c49⟩,⟨c50,c51⟩⟩,⟨c52,c53,c54,c55⟩,⟨c56,c57,c58,c59⟩,c60,c61⟩,c62,⟨c63⟩⟩:=x
  simp only at hupc
  replace hyc:V[(y-1).toNat]? =some [.J c0,.view (vw ao c1),.J c2,.J c3,.J c4,.J c5,.J c6,.J c7,.B c8,.B c9,.J c10,.J c11,.J c12,.J c13,.J c14,.J c15,.J c16,.J c17,.J c18,.J c19,.J c20,.J c21,.J c22,.J c23,.J c24,.J c25,.J c26,.J c27,.J c28,.J c29,.J c30,.J c31,.J c32,.J c33,.J c34,.J c35,.J c36,.J c37,.J c38,.J c39,.J c40,.J c41,.J c42,.J c43,.J c44,.J c45,.J c46,.J c47,.J c48,.J c49,.J c50,.J c51,.J c52,.J c53,.J c54,.J c55,.J c56,.J c57,.J c58,.J c59,.J c60,.J c61,.B c62,.view (vw aJ.c c63)]:=hyc
  obtain⟨Vc1,hVc1⟩:=nmE (vw ao c1)
  obtain⟨Vc63,hVc63⟩:=nmE (vw aJ.c c63)
  rw [←hVc1,←hVc63]at hyc
  cbv
  (first|refine ad hg (fM V y i1 hi2 hyc) ?_|refine aa hg (fM V y i1 hi2 hyc) ?_)
  cbv
  cases hq:g .q .neq c0 n
  case true=>
   rw [bk hg,bne_iff_ne]at hq
   have hDf:D=false:=by rw [hD];exact oe hy (by rw [gL,hik,hupc];simpa using hq)
   cbv
   exact bj hF (hno (by rw [hnode,hDf];simp)).symm
  rw [bk hg,zqq]at hq
  have hkok:gL ns n y=true:=by rw [gL,hik,hupc];simpa using hq
  cbv
  have e3:g .w .add .i64 j 1=j+1:=by rw [aM hg,aC _ (by omega)]
  rw [e3]
  exact gX hB2 (j+1) [some 0,some 1] (wkS [0,1] (by decide) ⟨⟨_,rfl,rfl,rfl⟩,⟨_,rfl,rfl,rfl⟩,trivial⟩ ⟨rfl,rfl,rfl,rfl,rfl,rfl,rfl,rfl,rfl,trivial⟩) ⟨by omega,by omega,fun i v hi hv=>by
   by_cases hi2:i<j.toNat
   ·exact k2 i v hi2 hv
   ·obtain rfl:i=j.toNat:=by omega
    rw [hy]at hv
    cases hv
    exact hkok⟩ (by omega)
 rw [bn hg,bD hg,zqo]at hk
 have hDt:D=true:=by rw [hD];exact wJ la1 (by omega) k2
 by_cases hu:a0=0
 ·have hCt:C=true:=by rw [hC,CH,hu];rfl
  have eu:g .q .neq a0 0=false:=by rw [bk hg];simpa using hu
  cbv
  rw [eu]
  cbv
  replace hnode:OK=E:=by rw [hnode,hCt,hDt];simp
  cases a62
  ·replace hE2:E= !(decide (0<bg Va63)):=by rw [hE2];simp
   cbv
   cases ht:g .q .gtr (g .ln Va63) 0
   case true=>
    rw [cj hg,bD hg,zqp]at ht
    cbv
    exact bj hF (hno (by rw [hnode,hE2];simpa using ht)).symm
   rw [cj hg,bD hg,zqo]at ht
   have hOKt:OK=true:=by rw [hnode,hE2];simpa using ht
   cbv
   rw [e1,hn]
   exact gX hB (z+1) [some 0] (wkS [0] (by decide) ⟨⟨_,rfl,rfl,rfl⟩,trivial⟩ ⟨rfl,rfl,rfl,rfl,trivial⟩) ⟨by omega,by omega,fun i y hi hy=>h1' i y hi hy hOKt⟩ (by omega)
  ·replace hE2:E= !(!TK||decide (0<bg Va1)):=by rw [hE2];simp
   cbv
   (first|refine ad hg cT ?_|refine aa hg cT ?_)
   cases TK
   case false=>
    cbv
    exact bj hF (hno (by rw [hnode,hE2];rfl)).symm
   cbv
   cases ht:g .q .gtr (g .ln Va1) 0
   case true=>
    rw [cj hg,bD hg,zqp]at ht
    cbv
    exact bj hF (hno (by rw [hnode,hE2];simpa using ht)).symm
   rw [cj hg,bD hg,zqo]at ht
   have hOKt:OK=true:=by rw [hnode,hE2];simpa using ht
   cbv
   rw [e1,hn]
   exact gX hB (z+1) [some 0] (wkS [0] (by decide) ⟨⟨_,rfl,rfl,rfl⟩,trivial⟩ ⟨rfl,rfl,rfl,rfl,trivial⟩) ⟨by omega,by omega,fun i y hi hy=>h1' i y hi hy hOKt⟩ (by omega)
 ·have eu:g .q .neq a0 0=true:=by rw [bk hg];simpa using hu
  have hiu:=hup hu
  obtain⟨u1,u2,xb,hxb⟩:=bF hiu
  have hu2:a0≤1048576:=Int.le_trans (qy hVx u2) hV1
  have hyb:V[(a0-1).toNat]? =some xb.ac:=by rw [hV];exact gV hxb
  have hkb:ue ns a0=xb.kids:=by unfold ue;rw [hxb]
  have hsb:=(hs xb (zqd hxb))
  obtain⟨b0,b1,⟨b2,b3,b4,b5,b6,b7,b8,b9,b10,b11,b12,⟨b13,b14⟩,⟨b15,b16⟩,⟨b17,b18⟩,⟨b19,b20⟩,⟨b21,b22⟩,⟨b23,b24⟩,⟨b25,b26⟩,b27,⟨⟨b28,b29⟩,⟨b30,b31⟩,⟨b32,b33⟩,⟨b34,b35⟩,⟨b36,b37⟩,⟨b38,b39⟩⟩,⟨⟨b40,b41⟩,⟨b42,b43⟩,⟨b44,b45⟩,⟨b46,b47⟩,⟨b48,b49⟩,⟨b50,b51⟩⟩,⟨b52,b53,b54,b55⟩,⟨b56,b57,b58,b59⟩,b60,b61⟩,b62,⟨b63⟩⟩:=xb
  obtain⟨sb1,sb63,-⟩:=hsb
  simp only at hkb
  replace hyb:V[(a0-1).toNat]? =some [.J b0,.view (vw ao b1),.J b2,.J b3,.J b4,.J b5,.J b6,.J b7,.B b8,.B b9,.J b10,.J b11,.J b12,.J b13,.J b14,.J b15,.J b16,.J b17,.J b18,.J b19,.J b20,.J b21,.J b22,.J b23,.J b24,.J b25,.J b26,.J b27,.J b28,.J b29,.J b30,.J b31,.J b32,.J b33,.J b34,.J b35,.J b36,.J b37,.J b38,.J b39,.J b40,.J b41,.J b42,.J b43,.J b44,.J b45,.J b46,.J b47,.J b48,.J b49,.J b50,.J b51,.J b52,.J b53,.J b54,.J b55,.J b56,.J b57,.J b58,.J b59,.J b60,.J b61,.B b62,.view (vw aJ.c b63)]:=hyb
  obtain⟨Cn,hCn⟩:=nmE (cnt b1 n)
  have hC2:C=decide (Cn=1):=by rw [hC,CH,hkb,hCn];simp [hu]
  obtain⟨Vb1,hVb1⟩:=nmE (vw ao b1)
  obtain⟨Vb63,hVb63⟩:=nmE (vw aJ.c b63)
  have lb1:=qx hVb1
  have pb1:0≤bg Vb1:=by omega
  have qb1:bg Vb1≤1048576:=by omega
  have hall:∀z:Int,bg Vb1≤z→wy (fun k=>if k=n then 1 else 0) b1 z.toNat=Cn:=fun z hz=>by rw [hCn];exact ly _ (by omega)
  rw [←hVb1,←hVb63]at hyb
  cbv
  rw [eu]
  cbv
  (first|refine ad hg (fM V a0 u1 hu2 hyb) ?_|refine aa hg (fM V a0 u1 hu2 hyb) ?_)
  cbv
  refine bU hg aD (by kernel_rfl) (fun s:Int×Int=>[(1,.p 0),(4,.p 1),(5,.i n),(8,.i s.2),(16,.v V),(17,.i (g .ln V)),(18,.i z),(63,.v Vb1),(64,.i (g .ln Vb1)),(65,.i s.1)]) (fun _=>[.bx 32 1 [.view V],.bx 148 64 [.J a0,.view Va1,.J a2,.J a3,.J a4,.J a5,.J a6,.J a7,.B a8,.B a9,.J a10,.J a11,.J a12,.J a13,.J a14,.J a15,.J a16,.J a17,.J a18,.J a19,.J a20,.J a21,.J a22,.J a23,.J a24,.J a25,.J a26,.J a27,.J a28,.J a29,.J a30,.J a31,.J a32,.J a33,.J a34,.J a35,.J a36,.J a37,.J a38,.J a39,.J a40,.J a41,.J a42,.J a43,.J a44,.J a45,.J a46,.J a47,.J a48,.J a49,.J a50,.J a51,.J a52,.J a53,.J a54,.J a55,.J a56,.J a57,.J a58,.J a59,.J a60,.J a61,.B a62,.view Va63]]) (fun s=>0≤s.1∧s.1≤bg Vb1∧0≤s.2∧s.2≤s.1∧s.2=wy (fun k=>if k=n then 1 else 0) b1 s.1.toNat) (fun s=>(bg Vb1).toNat-s.1.toNat)
   (0,0) [some 0,some 1] ⟨Int.le_refl 0,pb1,Int.le_refl 0,Int.le_refl 0,(jc _ _).symm⟩ (wkS [0,1] (by decide) ⟨⟨_,rfl,rfl,rfl⟩,⟨_,rfl,rfl,rfl⟩,trivial⟩ ⟨rfl,rfl,rfl,rfl,rfl,rfl,rfl,rfl,rfl,rfl,trivial⟩) (fun s B3 hst3 hB3=> ?_)
  obtain⟨i,d⟩:=s
  obtain⟨q0,q1,q2,q3,q4⟩:=hst3
  simp only at q0 q1 q2 q3 q4
  cbv
  cases hq:g .q .lss i (g .ln Vb1)
  case true=>
   rw [bn hg,bD hg,zqp]at hq
   cbv
   obtain⟨y,hy⟩:=qT (xs:=b1) q0 (gJ lb1 hq)
   have hyk:Vb1[i.toNat]? =some (lc (ao y)):=by rw [hVb1];exact bh hy
   have hsu:=jd (fun k:Int=>if k=n then(1:Int)else 0) hy
   have e3:g .w .add .i64 i 1=i+1:=by rw [aM hg,aC _ (by omega)]
   refine goX hg _ q0 hyk rfl ?_
   cbv
   cases he:g .q .eql y n
   ·have he':y≠n:=by rw [bv hg]at he;simpa using he
    simp only [if_neg he']at hsu
    cbv
    rw [e3]
    exact gX hB3 (i+1,d) [some 0,some 1] (wkS [0,1] (by decide) ⟨⟨_,rfl,rfl,rfl⟩,⟨_,rfl,rfl,rfl⟩,trivial⟩ ⟨rfl,rfl,rfl,rfl,rfl,rfl,rfl,rfl,rfl,rfl,trivial⟩) ⟨by simp only;omega,by simp only;omega,q2,by simp only;omega,by simp only;rw [show(i+1).toNat=i.toNat+1 by omega,hsu];omega⟩ (by show(bg Vb1).toNat-(i+1).toNat<(bg Vb1).toNat-i.toNat;omega)
   ·have he':y=n:=by rw [bv hg]at he;simpa using he
    simp only [if_pos he']at hsu
    have e4:g .w .add .i64 d 1=d+1:=by rw [aM hg,aC _ (by omega)]
    cbv
    rw [e3,e4]
    exact gX hB3 (i+1,d+1) [some 0,some 1] (wkS [0,1] (by decide) ⟨⟨_,rfl,rfl,rfl⟩,⟨_,rfl,rfl,rfl⟩,trivial⟩ ⟨rfl,rfl,rfl,rfl,rfl,rfl,rfl,rfl,rfl,rfl,trivial⟩) ⟨by simp only;omega,by simp only;omega,by simp only;omega,by simp only;omega,by simp only;rw [show(i+1).toNat=i.toNat+1 by omega,hsu];omega⟩ (by show(bg Vb1).toNat-(i+1).toNat<(bg Vb1).toNat-i.toNat;omega)
  rw [bn hg,bD hg,zqo]at hq
  have hdC:d=Cn:=by rw [q4,hall i (by omega)]
  subst hdC
  cbv
  cases hcn:g .q .neq d 1
  case true=>
   rw [bk hg,bne_iff_ne]at hcn
   have hCf:C=false:=by rw [hC2];simpa using hcn
   cbv
   exact bj hF (hno (by rw [hnode,hCf];simp)).symm
  rw [bk hg,zqq]at hcn
  have hCt:C=true:=by rw [hC2,hcn];rfl
  cbv
  replace hnode:OK=E:=by rw [hnode,hCt,hDt];simp
  cases a62
  ·replace hE2:E= !(decide (0<bg Va63)):=by rw [hE2];simp
   cbv
   cases ht:g .q .gtr (g .ln Va63) 0
   case true=>
    rw [cj hg,bD hg,zqp]at ht
    cbv
    exact bj hF (hno (by rw [hnode,hE2];simpa using ht)).symm
   rw [cj hg,bD hg,zqo]at ht
   have hOKt:OK=true:=by rw [hnode,hE2];simpa using ht
   cbv
   rw [e1,hn]
   exact gX hB (z+1) [some 0] (wkS [0] (by decide) ⟨⟨_,rfl,rfl,rfl⟩,trivial⟩ ⟨rfl,rfl,rfl,rfl,trivial⟩) ⟨by omega,by omega,fun i y hi hy=>h1' i y hi hy hOKt⟩ (by omega)
  ·replace hE2:E= !(!TK||decide (0<bg Va1)):=by rw [hE2];simp
   cbv
   (first|refine ad hg cT ?_|refine aa hg cT ?_)
   cases TK
   case false=>
    cbv
    exact bj hF (hno (by rw [hnode,hE2];rfl)).symm
   cbv
   cases ht:g .q .gtr (g .ln Va1) 0
   case true=>
    rw [cj hg,bD hg,zqp]at ht
    cbv
    exact bj hF (hno (by rw [hnode,hE2];simpa using ht)).symm
   rw [cj hg,bD hg,zqo]at ht
   have hOKt:OK=true:=by rw [hnode,hE2];simpa using ht
   cbv
   rw [e1,hn]
   exact gX hB (z+1) [some 0] (wkS [0] (by decide) ⟨⟨_,rfl,rfl,rfl⟩,trivial⟩ ⟨rfl,rfl,rfl,rfl,trivial⟩) ⟨by omega,by omega,fun i y hi hy=>h1' i y hi hy hOKt⟩ (by omega)
def BE(x:ak)(K R:LLA):List AC:= .J x.up:: .view K::(lc (ar.c x.style)++[.B x.measured,.view R])
theorem xJ(x:ak):x.ac=BE x (vw ao x.kids) (vw aJ.c x.table.rules):=rfl
theorem wn{p:Int→Bool}{xs:List Int}{z:Int}{x:Int}(h0:0≤z)(hx:xs[z.toNat]? =some x):(xs.take (z+1).toNat).filter p=(xs.take z.toNat).filter p++if p x then [x]else []:=by
 rw [show(z+1).toNat=z.toNat+1 by omega,List.take_add_one,hx,List.filter_append]
 simp only [Option.toList_some]
 cases h:p x<;>simp [h]
theorem uZ(xs ys:List Int):vw ao (xs++ys)=vw ao xs++vw ao ys:=by simp [vw]
theorem di(ns:List ak)(n:Int)(x:ak)(h1:1≤n)(h2:n≤1048576)(hx:ns[(n-1).toNat]? =some x)(V K R:LLA)(hV:V=vwA ak.ac ns)(hK:K=vw ao x.kids)(hR:R=vw aJ.c x.table.rules):PC0 121 [.agg [.view V],ai n] (.t (.agg (BE x K R))):=by
 subst hV hK hR
 rw [←xJ]
 obtain⟨a0,a1,⟨a2,a3,a4,a5,a6,a7,a8,a9,a10,a11,a12,⟨a13,a14⟩,⟨a15,a16⟩,⟨a17,a18⟩,⟨a19,a20⟩,⟨a21,a22⟩,⟨a23,a24⟩,⟨a25,a26⟩,a27,⟨⟨a28,a29⟩,⟨a30,a31⟩,⟨a32,a33⟩,⟨a34,a35⟩,⟨a36,a37⟩,⟨a38,a39⟩⟩,⟨⟨a40,a41⟩,⟨a42,a43⟩,⟨a44,a45⟩,⟨a46,a47⟩,⟨a48,a49⟩,⟨a50,a51⟩⟩,⟨a52,a53,a54,a55⟩,⟨a56,a57,a58,a59⟩,a60,a61⟩,a62,⟨a63⟩⟩:=x
 exact fM _ n h1 h2 (gV hx)
theorem bL(ns:List ak)(n:Int)(x:ak)(h1:1≤n)(h2:n≤1048576)(hx:ns[(n-1).toNat]? =some x)(V K R:LLA)(hV:V=vwA ak.ac ns)(hK:K=vw ao x.kids)(hR:R=vw aJ.c x.table.rules):PC0 107 [.agg [.view V],ai n] (.t (.agg (BE x K R))):=by
 subst hV hK hR
 rw [←xJ]
 obtain⟨a0,a1,⟨a2,a3,a4,a5,a6,a7,a8,a9,a10,a11,a12,⟨a13,a14⟩,⟨a15,a16⟩,⟨a17,a18⟩,⟨a19,a20⟩,⟨a21,a22⟩,⟨a23,a24⟩,⟨a25,a26⟩,a27,⟨⟨a28,a29⟩,⟨a30,a31⟩,⟨a32,a33⟩,⟨a34,a35⟩,⟨a36,a37⟩,⟨a38,a39⟩⟩,⟨⟨a40,a41⟩,⟨a42,a43⟩,⟨a44,a45⟩,⟨a46,a47⟩,⟨a48,a49⟩,⟨a50,a51⟩⟩,⟨a52,a53,a54,a55⟩,⟨a56,a57,a58,a59⟩,a60,a61⟩,a62,⟨a63⟩⟩:=x
 exact dc _ n h1 h2 (gV hx)
theorem i8{ns:List ak}(h:eo ns=true){n:Int}{x:ak}(h1:1≤n)(hx:ns[(n-1).toNat]? =some x):∀k∈x.kids,isN ns k=true:=fun k hk=>by
 simp only [eo,zqs]at h
 have:=(jD ns ns 0).1 h.2 _ x hx
 simp only [fo,zqs,zqf,gL]at this
 exact(this.2.2.2.1 k hk).1
end Go.Proofs.YtdnnffbbhijmkaaGreat
namespace Go.Proofs.YtdnnffbbhijmkaaGreat
open Go.Shelf Go.RowKit Go.Lib Go.Sort Am Go.Proofs.Tryz
def lU(f:Int→Int)(x:Int):List Int→List Int
 | []=>[x]
 |y::r=>if f x<f y then y::lU f x r else x::y::r
def ltF(f:Int→Int)(x y:Int):Bool:=decide (f x<f y)
theorem uJ{d:Array Int}{pre post:List Int}{x:Int}(h:d.toList=pre++x::post):d[pre.length]! =x:=by
 have hl:pre.length<d.size:=by rw [←Array.length_toList,h];simp
 rw [getElem!_pos d _ hl,←Array.getElem_toList]
 simp [h]
theorem Bj{d:Array Int}{pre post:List Int}{x y:Int}(h:d.toList=pre++y::x::post):(swp d (pre.length+1) pre.length).toList=pre++x::y::post:=by
 have e1:d[pre.length]! =y:=uJ h
 have e2:d[pre.length+1]! =x:=by
  have:=uJ (d:=d) (pre:=pre++[y]) (post:=post) (x:=x) (by rw [h];simp)
  simpa using this
 unfold swp
 rw [e1,e2,Array.toList_setIfInBounds,Array.toList_setIfInBounds,h]
 apply List.ext_getElem?
 intro i
 simp only [List.getElem?_set,List.length_set,zqe,zqx,List.getElem?_append,List.getElem?_cons]
 split<;>split<;>split<;>(try split)<;>(try split)<;>first|rfl|omega|(simp_all<;>omega)
theorem sI(f:Int→Int):∀(j:Nat)(d:Array Int)(pre post:List Int)(x:Int),pre.length=j→d.toList=pre++x::post→(insInner (ltF f) 0 j d).toList=(lU f x pre.reverse).reverse++post
 |0,d,pre,post,x,hj,h=>by
  obtain rfl:=List.length_eq_zero_iff.1 hj
  rw [insInner]
  simpa [lU]using h
 |j+1,d,pre,post,x,hj,h=>by
  rcases List.eq_nil_or_concat pre with rfl|⟨pre',y,rfl⟩
  ·simp at hj
  have hj':pre'.length=j:=by simpa using hj
  have h':d.toList=pre'++y::x::post:=by rw [h];simp
  have e1:d[j]! =y:=by rw [←hj'];exact uJ h'
  have e2:d[j+1]! =x:=by
   have:=uJ (d:=d) (pre:=pre'++[y]) (post:=post) (x:=x) (by rw [h'];simp)
   rw [←hj'];simpa using this
  rw [insInner,e1,e2]
  have hr:(pre'.concat y).reverse=y::pre'.reverse:=by simp
  rw [hr,lU]
  by_cases hlt:f x<f y
  ·have:(decide (j+1>0)&&ltF f x y)=true:=by simp [ltF,hlt]
   rw [if_pos this,if_pos hlt,sI f j _ pre' (y::post) x hj' (by rw [←hj'];exact Bj h')]
   simp
  ·have:(decide (j+1>0)&&ltF f x y)=false:=by simp [ltF,hlt]
   rw [if_neg (by rw [this];simp),if_neg hlt,h']
   simp
theorem sn(lt:Int→Int→Bool)(a:Nat):∀(j:Nat)(d:Array Int),(insInner lt a j d).size=d.size
 |0,d=>by rw [insInner]
 |j+1,d=>by
  rw [insInner]
  split
  ·rw [sn lt a j,size_swp]
  ·rfl
theorem sF(f:Int→Int)(b:Nat):∀(rest A:List Int)(d:Array Int),d.toList=A++rest→A.length+rest.length=b→(insOuter (ltF f) 0 b A.length d).toList=(rest.foldl (fun acc x=>lU f x acc) A.reverse).reverse
 | [],A,d,h,hb=>by
  rw [insOuter,if_neg (by simp at hb;omega)]
  simpa using h
 |x::post,A,d,h,hb=>by
  simp only [zqx]at hb
  rw [insOuter,if_pos (by omega)]
  have hi:=sI f A.length d A post x rfl h
  have hl:(lU f x A.reverse).reverse.length=A.length+1:=by
   have h1:=congrArg List.length hi
   have h2:(insInner (ltF f) 0 A.length d).size=d.size:=sn _ _ _ _
   rw [Array.length_toList,h2,←Array.length_toList,h]at h1
   simp only [zqe,zqx]at h1
   omega
  have:=sF f b post (lU f x A.reverse).reverse _ hi (by omega)
  rw [hl,List.reverse_reverse]at this
  rw [this,List.foldl_cons]
theorem vb(f:Int→Int)(xs:List Int):(Sort.insertionSort (ltF f) xs.toArray 0 xs.toArray.size).toList=(xs.foldl (fun acc x=>lU f x acc) []).reverse:=by
 unfold Sort.insertionSort
 cases xs with
 |nil=>
  rw [insOuter,if_neg (by simp)];rfl
 |cons x post=>
  have:=sF f (x::post).toArray.size post [x] (x::post).toArray rfl (by simp;omega)
  simpa [lU]using this
theorem Aq(f:Int→Int)(x:Int):∀(out:List Int)(a:Nat),a≤out.length→(∀i y,a≤i→out[i]? =some y→f x<f y)→(lU f x out.reverse).reverse=(lU f x (out.take a).reverse).reverse++out.drop a:=by
 intro out
 induction h:out.length generalizing out with
 |zero=>
  intro a ha _
  obtain rfl:=List.length_eq_zero_iff.1 h
  simp
 |succ n ih=>
  intro a ha hy
  rcases List.eq_nil_or_concat out with rfl|⟨o,y,rfl⟩
  ·simp at h
  rw [List.concat_eq_append]at *
  simp only [zqe,zqm,Nat.add_right_cancel_iff]at h
  by_cases ha2:a=(o++[y]).length
  ·subst ha2
   rw [List.take_length,List.drop_length,List.append_nil]
  ·have hal:a≤o.length:=by simp at ha ha2;omega
   have h1:=hy o.length y hal (by simp)
   have:=ih o h a (by omega) (fun i z hi hz=>hy i z hi (by rw [zqh (List.getElem?_eq_some_iff.1 hz).1];exact hz))
   rw [List.reverse_append,List.reverse_singleton,List.singleton_append,lU,if_pos h1,List.reverse_cons,this,List.take_append_of_le_length hal,List.drop_append_of_le_length hal]
   simp
theorem Ap(f:Int→Int)(x:Int)(out:List Int)(a:Nat)(ha:a≤out.length)(hs:a=0∨∃y,out[a-1]? =some y∧¬f x<f y)(hy:∀i y,a≤i→out[i]? =some y→f x<f y):(lU f x out.reverse).reverse=out.take a++x::out.drop a:=by
 rw [Aq f x out a ha hy]
 rcases hs with rfl|⟨y,h1,h2⟩
 ·simp [lU]
 ·have hl:a-1<out.length:=(List.getElem?_eq_some_iff.1 h1).1
  have h0:0<a:=by
   rcases Nat.eq_zero_or_pos a with rfl|h
   ·exact absurd (hy 0 y (Nat.le_refl _) (by simpa using h1)) h2
   ·exact h
  have e:out.take a=out.take (a-1)++[y]:=by
   conv=>lhs;rw [show a=a-1+1 by omega]
   rw [List.take_add_one,h1];rfl
  rw [e,List.reverse_append,List.reverse_singleton,List.singleton_append,lU,if_neg h2]
  simp
theorem uj(f:Int→Int)(x:Int):∀l:List Int,(lU f x l).length=l.length+1
 | []=>rfl
 |y::r=>by
  rw [lU];split
  ·simp [uj f x r]
  ·simp
theorem ui(f:Int→Int)(x k:Int):∀l:List Int,k∈lU f x l↔k=x∨k∈l
 | []=>by simp [lU]
 |y::r=>by
  rw [lU];split
  ·simp only [List.mem_cons,ui f x k r]
   constructor
   ·rintro(h|h|h)<;>simp [h]
   ·rintro(h|h|h)<;>simp [h]
  ·simp
def ia(f:Int→Int)(xs:List Int):List Int:=(xs.foldl (fun acc x=>lU f x acc) []).reverse
theorem vO(f:Int→Int)(k:Int):∀(xs acc:List Int),k∈xs.foldl (fun acc x=>lU f x acc) acc↔k∈xs∨k∈acc
 | [],acc=>by simp
 |x::xs,acc=>by
  rw [List.foldl_cons,vO f k xs,ui]
  simp only [List.mem_cons]
  constructor
  ·rintro(h|h|h)<;>simp [h]
  ·rintro((h|h)|h)<;>simp [h]
theorem vc(f:Int→Int)(k:Int)(xs:List Int):k∈ia f xs↔k∈xs:=by simp [ia,vO]
theorem vQ(f:Int→Int):∀(xs acc:List Int),(xs.foldl (fun acc x=>lU f x acc) acc).length=xs.length+acc.length
 | [],acc=>by simp
 |x::xs,acc=>by rw [List.foldl_cons,vQ f xs,uj];simp;omega
theorem kD(f:Int→Int)(xs:List Int):(ia f xs).length=xs.length:=by simp [ia,vQ]
theorem Bt{F F':Nat→Prop}{w w':World}{b:Nat}(hF:∀b,F b→F' b)(hw:∀b,F b→w'.heap[b]? =w.heap[b]?)(hb:w'.heap[b]? =w.heap[b]?){cs:List AC}(h:RPL F w b 0 cs):RPL F' w' b 0 cs:=
 RPL.mk fun j c hj=>by
  obtain⟨u,hu,ho,hr⟩:=RPL.get h hj
  exact⟨u,by rw [sV hb];exact hu,ho,RP.ext hF hw hr⟩
theorem vD{P:Program}{g:FuncId}{f:Int→Int}{p:Int→Prop}{cs:List AC}{n:Nat}
  (hc:∀(dk:List Int)(i j:Nat),dk.length=n→(∀k∈dk,p k)→i<n→j<n→cY P g [ai (i:Int),ai (j:Int),.c (.eptr cs 0),.c (.eptr [.view (vw ao dk)] 0)] fun res rows=>res= .t (abl (decide (f (dk[i]!)<f (dk[j]!))))∧rows=[])
  {F:Nat→Prop} {w:World} {blk bo bt cap:Nat} {d:Array Int} (hF:∀b,F b→b<w.heap.size) (hFb:¬F blk) (hblk:blk<w.heap.size) (hbo:bo<w.heap.size) (hbt:bt<w.heap.size) (ho:bo≠blk) (ht:bt≠blk)
  (hco:w.cell? ⟨bo,0,none⟩=some (.slice (some ⟨blk,0,none⟩) n cap)) (hn:n≤cap) (hm:cap≤maxLen) (hct:RPL F w bt 0 cs) (hd:d.size=n) (hH:Holds (Value.int .i64) w blk 0 d):
  se P g #[.pointer (some ⟨bt,0,none⟩),.pointer (some ⟨bo,0,none⟩)] (Value.int .i64) (ltF f) p blk 0 n w:=fun W dk hs hp hW i j hi hj=>by
 obtain⟨F',hF'⟩:∃F':Nat→Prop,F'=fun b=>F b∨b=bo∨b=bt∨b=blk:=⟨_,rfl⟩
 have hkeep:∀b,F b→W.heap[b]? =w.heap[b]? :=fun b hb=>(hW.at_ b (hF b hb)).trans (iu (fun e=>hFb (e▸hb)))
 have hHW:=hW.holds hblk hH (hs.trans hd.symm)
 have hco':W.cell? ⟨bo,0,none⟩=some (.slice (some ⟨blk,0,none⟩) n cap):=by rw [hW.cell hbo ho];exact hco
 have hct':RPL F' W bt 0 cs:=Bt (fun b hb=>by rw [hF'];exact .inl hb) hkeep ((hW.at_ bt hbt).trans (iu ht)) hct
 have hlen:(vw ao dk.toList).length=n:=by rw [af];simpa using hs
 have hrow:RP F' W (.view (vw ao dk.toList)) (.slice (some ⟨blk,0,none⟩) n cap):=by
  unfold RP
  refine⟨_,cap,by rw [hlen],by rw [hlen];exact hn,hm,.inr ⟨blk,0,1,rfl,by rw [hF'];exact .inr (.inr (.inr rfl)),RPE.mk fun q x hq=> ?_⟩⟩
  have hql:q<dk.size:=by have:=(List.getElem?_eq_some_iff.1 hq).1;rw [hlen]at this;omega
  have hx:x=lc (ao dk[q]!):=by
   have h1:dk.toList[q]? =some dk[q]! :=by rw [getElem!_pos dk q hql];simp [hql]
   have:=bh (c:=ao) h1
   rw [hq]at this;exact Option.some.inj this
  subst hx
  refine⟨rfl,RPL.mk fun t c ht=> ?_⟩
  have:t=0:=by
   have:=(List.getElem?_eq_some_iff.1 ht).1
   simp [lc,ao]at this;omega
  subst this
  have:c= .imm (.int .i64 dk[q]!):=by simpa [lc,ao]using ht.symm
  subst this
  refine⟨.int .i64 dk[q]!,?_,rfl,by unfold RP;rfl⟩
  have:=(hHW q hql).1
  simpa using this
 have hcc:=hc dk.toList i j (by simpa using hs) (fun k hk=>by
  obtain⟨q,hq⟩:=List.mem_iff_getElem?.1 hk
  have hql:q<dk.size:=by have:=(List.getElem?_eq_some_iff.1 hq).1;simpa using this
  have:=hp q (by omega)
  rw [getElem!_pos dk q hql]at this
  have h2:k=dk[q]:=by simp [hql]at hq;exact hq.symm
  rw [h2];exact this) hi hj
 have hg1:∀q,q<n→dk.toList[q]! =dk[q]! :=fun q hq=>by
  rw [getElem!_pos dk q (by omega),getElem!_pos dk.toList q (by simp;omega)];simp
 rw [hg1 i hi,hg1 j hj]at hcc
 have hsz:∀b,F' b→b<W.heap.size:=fun b hb=>by
  rw [hF']at hb
  refine Nat.lt_of_lt_of_le ?_ hW.size
  rcases hb with hb|rfl|rfl|rfl
  ·exact hF b hb
  ·exact hbo
  ·exact hbt
  ·exact hblk
 refine(hcc.2 F' W [] [.int .i64 i,.int .i64 j,.pointer (some ⟨bt,0,none⟩),.pointer (some ⟨bo,0,none⟩)] (RH.empty hsz (Nat.zero_le _)) rfl (fun q x hq=> ?_)).mono ?_
 ·match q,hq with
  |0,hq=>obtain rfl:=Option.some.inj hq.symm;exact⟨_,rfl,rfl⟩
  |1,hq=>obtain rfl:=Option.some.inj hq.symm;exact⟨_,rfl,rfl⟩
  |2,hq=>obtain rfl:=Option.some.inj hq.symm;exact⟨_,rfl,bt,0,rfl,by rw [hF'];exact .inr (.inr (.inl rfl)),hct'⟩
  |3,hq=>
   obtain rfl:=Option.some.inj hq.symm
   refine⟨_,rfl,bo,0,rfl,by rw [hF'];exact .inr (.inl rfl),RPL.mk fun t c ht=> ?_⟩
   have h0:t=0:=by
    have:=(List.getElem?_eq_some_iff.1 ht).1
    simp at this;omega
   subst h0
   obtain rfl:=Option.some.inj ht.symm
   exact⟨_,hco',rfl,hrow⟩
  |q+4,hq=>simp at hq
 ·rintro e w' ⟨v,res,h',m',F'',rfl,⟨rows,rfl,hq,_⟩,hG,hS,hV⟩
  subst hq
  refine⟨?_,hS.os,hS.tape,hS.output,hS.size,fun b hb=>hS.blk b hb (fun r ab c h=>by simp at h)⟩
  have:v= .bool (decide (f dk[i]! <f dk[j]!)):=hV
  rw [this];rfl
def lQ(ns:List ak)(k:Int):Bool:=match ns[(k-1).toNat]? with|some y=> !y.style.hidden&& !y.style.apart|none=>false
def io(ns:List ak)(k:Int):Int:=match ns[(k-1).toNat]? with|some y=>y.style.order|none=>0
section
variable {F : Nat → Prop} {w w1 w2 w' : World} {m m1 : AM} {h h1 : AH}
theorem sk(s:ea F w m h w1 m1 h1)(hos:w2.os=w1.os)(htp:w2.tape=w1.tape)(hou:w2.output=w1.output)(hsz:w1.heap.size≤w2.heap.size)(hb:∀b,b<w1.heap.size→w2.heap[b]? =w1.heap[b]?):ea F w m h w2 m1 h1:=by
 refine⟨⟨fun r ab hr=> ?_,s.hp.inj,s.hp.len,fun b hb'=>Nat.lt_of_lt_of_le (s.hp.old b hb') hsz,Nat.le_trans s.hp.lo hsz⟩,s.keeps,hos.trans s.os,htp.trans s.tape,hou.trans s.output,Nat.le_trans s.size hsz,fun b hb' hn=>(hb b (Nat.lt_of_lt_of_le hb' s.size)).trans (s.blk b hb' hn),s.own⟩
 rcases s.hp.at_ r ab hr with h3|⟨b,c,h3,h4,h5⟩
 ·exact .inl h3
 ·exact .inr ⟨b,c,h3,h4,RB.ext (fun _ h=>h) (fun b' hb'=>hb b' (s.hp.old b' hb')) (fI.refl _ _) (hb b (s.hp.lt hr h3).2) h5⟩
theorem wo(hH:RH F w m h){r b cap ty:Nat}{xs:List Int}{d:Array Int}(h1:h[r]? =some (.live ⟨ty,1,vw ao xs⟩))(h2:m[r]? =some (some (b,cap)))(hd:d.size=xs.length)(hS:ka (Value.int .i64) w b 0 d w'):ea F w m h w' m (h.set r (.live ⟨ty,1,vw ao d.toList⟩)):=by
 obtain⟨_,hF,cur,hc,hs,hle,hmx,hcells⟩:=hH.get h1 h1 h2
 simp only [Nat.mul_one,af]at hs hle
 have hsz:(putCells (Value.int .i64) 0 d cur).size=cur.size:=by simp [putCells]
 have hst:ea F w m h (w.setRow b (putCells (Value.int .i64) 0 d cur)) m (h.set r (.live ⟨ty,1,vw ao d.toList⟩)):=ea.update hH h1 h2 rfl rfl (by simp [af,hd]) (by rw [hsz];simpa using hs) (fun i x hx=>by
  have hi:i<d.size:=by have:=(List.getElem?_eq_some_iff.1 hx).1;simpa [af]using this
  have hx':x=lc (ao d[i]!):=by
   have h3:d.toList[i]? =some d[i]! :=by rw [getElem!_pos d i hi];simp [hi]
   have:=bh (c:=ao) h3
   rw [hx]at this;exact Option.some.inj this
  subst hx'
  refine⟨rfl,fun j c hj=> ?_⟩
  obtain rfl:j=0:=by
   have:=(List.getElem?_eq_some_iff.1 hj).1
   simp [lc,ao]at this;omega
  obtain rfl:c= .imm (.int .i64 d[i]!):=by simpa [lc,ao]using hj.symm
  have hci:i<cur.size:=by omega
  exact⟨.int .i64 d[i]!,by simp [putCells,Array.getElem?_eq_getElem hci,hi],rfl,rfl⟩)
 refine sk hst hS.os hS.tape hS.output (by simpa using hS.size) (fun b' hb'=> ?_)
 rw [hS.at_ b' (by simpa using hb')]
 by_cases hbb:b'=b
 ·subst hbb
  rw [setRow_heap w b' cur _ _ _ hc]
  simp only [putRow,mapBlock,Array.getElem?_modify,hc,if_true,Option.map_some,onCells]
 ·rw [iu hbb,setRow_other _ _ _ _ hbb]
end
shelf_lay LaysGt.n8 Ggt 8 at Tryz as Tryz.sl8
theorem Cu{d:List Int}{i:Nat}(h:i<d.length):d[i]? =some d[i]! :=by rw [getElem!_pos d i h];simp [h]
theorem yN(ns:List ak)(dk:List Int)(hl:ns.length≤1048576)(hk:∀k∈dk,isN ns k=true)(i j:Nat)(hi:i<dk.length)(hj:j<dk.length):PC0 123 [ai (i:Int),ai (j:Int),.c (.eptr [.view (vwA ak.ac ns)] 0),.c (.eptr [.view (vw ao dk)] 0)] (.t (abl (decide (io ns (dk[i]!)<io ns (dk[j]!))))):=by
 obtain⟨V,hV⟩:=nmE (vwA ak.ac ns)
 obtain⟨D,hD⟩:=nmE (vw ao dk)
 obtain⟨a,ha⟩:=nmE (dk[i]!)
 obtain⟨b,hb⟩:=nmE (dk[j]!)
 have ga:dk[i]? =some a:=by rw [ha];exact Cu hi
 have gb:dk[j]? =some b:=by rw [hb];exact Cu hj
 obtain⟨a1,a2,xa,hxa⟩:=bF (hk a (zqd ga))
 obtain⟨b1,b2,xb,hxb⟩:=bF (hk b (zqd gb))
 have ya:D[((i:Int)).toNat]? =some (lc (ao a)):=by rw [hD];exact bh ga
 have yb:D[((j:Int)).toNat]? =some (lc (ao b)):=by rw [hD];exact bh gb
 have i0:(0:Int)≤(i:Int):=Int.natCast_nonneg i
 have j0:(0:Int)≤(j:Int):=Int.natCast_nonneg j
 have oa:io ns a=xa.style.order:=by unfold io;rw [hxa]
 have ob:io ns b=xb.style.order:=by unfold io;rw [hxb]
 rw [←hV,←hD,←ha,←hb,oa,ob]
 clear oa ob
 obtain⟨Ka,hKa⟩:=nmE (vw ao xa.kids)
 obtain⟨Ra,hRa⟩:=nmE (vw aJ.c xa.table.rules)
 obtain⟨Kb,hKb⟩:=nmE (vw ao xb.kids)
 obtain⟨Rb,hRb⟩:=nmE (vw aJ.c xb.table.rules)
 have ca:=di ns a xa a1 (by omega) hxa V Ka Ra hV hKa hRa
 have cb:=di ns b xb b1 (by omega) hxb V Kb Rb hV hKb hRb
 obtain⟨I,hI⟩:∃I:Int,I=(i:Int):=⟨_,rfl⟩
 obtain⟨J,hJ⟩:∃J:Int,J=(j:Int):=⟨_,rfl⟩
 rw [←hI]at ya i0⊢
 rw [←hJ]at yb j0⊢
 clear hI hJ ga gb hxa hxb
 refine ae (aK f123) aD func123 fun g F hg hF=> ?_
 cbv
 refine goX hg _ i0 ya rfl ?_
 cbv
 (first|refine ad hg ca ?_|refine aa hg ca ?_)
 cbv
 refine goX hg _ j0 yb rfl ?_
 cbv
 (first|refine ad hg cb ?_|refine aa hg cb ?_)
 cbv
 rw [bn hg]
 exact bj hF rfl
noncomputable def siT:TypeInfo:=(prog.info? 49).get (by kernel_rfl)
noncomputable def siE:TypeInfo:=(prog.info? 3).get (by kernel_rfl)
theorem siK(n:Nat)(h2:2≤n):Lib.swapperK n siE 2=5:=by
 have a:siE.hasPointers=false:=by kernel_rfl
 have b:siE.bytes=8:=by kernel_rfl
 have c:(n==0)=false:=by simp;omega
 have d:(n==1)=false:=by simp;omega
 simp [Lib.swapperK,a,b,c,d]
theorem Bo{w:World}{g blk c:Nat}{lb:Array Value}{d:Array Int}(f:Int→Int)(p:Int→Prop)(hg:∀args w,(callFunc g args).run prog w= .ok (.enter g args) w)(h2:2≤d.size)(h20:d.size<20)
  (hless:se prog g lb (Value.int .i64) (ltF f) p blk 0 d.size w) (hp:∀i,i<d.size→p d[i]!) (hH:Holds (Value.int .i64) w blk 0 d) (hblk:blk<w.heap.size):
  Calls prog 122 #[.iface 49 (.slice (some ⟨blk,0,none⟩) d.size c),.func (.func g) #[] lb] w fun e w'=>e= .returned (.tuple #[])∧ka (Value.int .i64) w blk 0 (Sort.insertionSort (ltF f) d 0 d.size) w':=by
 have hS:=uM Tryz.sl8 49 3 siT siE (by kernel_rfl) (by kernel_rfl) (by kernel_rfl) (by kernel_rfl) 2 (fun _=>by kernel_rfl) (by kernel_rfl) (fun _=>by kernel_rfl) (Value.int .i64) (fun _=>rfl) (ltF f) p g lb
  hg blk 0 c d h2 h20 291 (by rw [siK _ h2];kernel_rfl) true
  (fun args W=>run_callFunc_extern func291 (by kernel_rfl) (by kernel_rfl) (by kernel_rfl) (e:=Extern.ReflectliteSwapper.swap true) (by kernel_rfl) args W) w hless hp hH hblk
 exact hS
theorem zt{w:World}{p:Option Addr}{n c:Nat}(hn:n≤1)(lf:Fn)(la lb:Array Value):
  Calls prog 122 #[.iface 49 (.slice p n c),.func lf la lb] w fun e w'=>e= .returned (.tuple #[])∧∃os,w'=grow w os:=by
 rcases Nat.le_one_iff_eq_zero_or_eq_one.1 hn with rfl|rfl
 ·exact Any.sort_SliceStable_tiny Tryz.sl8 49 3 siT siE (by kernel_rfl) (by kernel_rfl) (by kernel_rfl) (by kernel_rfl) 2 (fun _=>by kernel_rfl) p 0 c (by omega) 287 (by kernel_rfl) lf la lb w
 ·exact Any.sort_SliceStable_tiny Tryz.sl8 49 3 siT siE (by kernel_rfl) (by kernel_rfl) (by kernel_rfl) (by kernel_rfl) 2 (fun _=>by kernel_rfl) p 1 c (by omega) 288 (by kernel_rfl) lf la lb w
theorem Dn{id n0:Nat}{o35 o36 o37 o38:Oper}(e35:o35.op= .load 49 (.tmp 5))(d35:o35.dst=some 35)(g35:o35.guard=none)(e36:o36.op= .makeInterface 49 (.tmp 35))(d36:o36.dst=some 36)(g36:o36.guard=none)
  (e37:o37.op= .makeFunc (.func 123) #[] #[.tmp 2,.tmp 5]) (d37:o37.dst=some 37) (g37:o37.guard=none) (c38:Call) (e38:o38.op= .call c38) (k38:c38.callee= .value (.func 122)) (a38:c38.args= #[.tmp 36,.tmp 37]) (d38:o38.dst=some 38) (g38:o38.guard=none)
  (ns:List ak) (hl:ns.length≤1048576) {E:List Int} (hE:∀k∈E,isN ns k=true) (h20:E.length<20) {l:List (Nat×AV)} {Q:Exit→(Nat→AV)→AH→Prop}
  (h2:lkT l 2= .p 0) (h5:lkT l 5= .p 1) (tT tI:Nat)
  (hQ:Q .normal (lkT ((38,.t (.c .dead))::(37,.t (.c .dead))::(36,.t (.c .dead))::(35,.o 2)::l)) (toH [.bx tT 1 [.view (vwA ak.ac ns)],.bx tI 1 [.own 2],.rw ⟨3,1,vw ao (ia (io ns) E)⟩])) (N:Nat) (hN:N=40) (cd:Code) (hcd:cd= .region id #[o35,o36,o37,o38] false) (hh:EH) (hhh:hh=[.bx tT 1 [.view (vwA ak.ac ns)],.bx tI 1 [.own 2],.rw ⟨3,1,vw ao E⟩]):
  VC prog n0 N cd Q (lkT l) (toH hh):=by
 subst hN hcd hhh
 intro F w0 m0 h0 a w m hlen r
 refine wp_region_list ?_
 show wpList _ _ _ [o35,o36,o37,o38] a w
 have wnt:∀(o:Oper)(y:Nat→Option Bool),o.guard=none→Region.wanted o y=true:=fun o y hg=>by unfold Region.wanted;rw [hg]
 unfold wpList
 rw [if_pos (wnt _ _ g35)]
 left
 obtain⟨H,hH'⟩:∃H:AH,H=toH [.bx tT 1 [.view (vwA ak.ac ns)],.bx tI 1 [.own 2],.rw ⟨3,1,vw ao E⟩]:=⟨_,rfl⟩
 rw [←hH']at r
 have H1:H[1]? =some (.live ⟨tI,1,[[.own 2]]⟩):=by rw [hH'];rfl
 have H0:H[0]? =some (.live ⟨tT,1,[[.view (vwA ak.ac ns)]]⟩):=by rw [hH'];rfl
 have H2:H[2]? =some (.live ⟨3,1,vw ao E⟩):=by rw [hH'];rfl
 refine(nr (o:=o35) (K:=fun res h'=>res= .o 2∧h'=H) r.st.hp r.tm ?_).wp (fun v w1⟨res,h',m1,F1,⟨hres,hh'⟩,hG1,hs,hv⟩=> ?_)
 ·rw [e35]
  have ha:qV prog 49=some none:=by kernel_rfl
  simp only [opA,pop,ev,h5,ha,H1]
  exact⟨[.own 2],rfl,.own 2,rfl,rfl,by simp⟩
 subst hres hh'
 have r1:=r.nextG (o:=o35) (by unfold fS;rw [d35];rfl) hG1.1 hs hv
 have hsz:a.tmps.size=40:=r.sz
 obtain⟨b,hb⟩:=nmE (a.put o35.dst v)
 have v35:b.tmps.getD 35 undef=v:=by rw [hb,eD,if_pos ⟨d35,by rw [hsz];decide⟩]
 rw [←hb]at r1⊢
 have hb1:b.tmps.size=40:=r1.sz
 have hGr:fu F F1 w0 m0 h0:=r.grow (fu.refl _ _ _ _) hG1
 clear hs r hb hsz
 unfold wpList
 rw [if_pos (wnt _ _ g36)]
 left
 have x36:(execOp b.eval o36).run prog w1= .ok (.value (.iface 49 v)) w1:=by
  have hu:=run_makeInterface (P:=prog) w1 49 v (by kernel_rfl)
  simp [execOp,e36,Act.eval,v35,hu]
 refine(Yl.value x36 (R:=fun u w2=>u= .iface 49 v∧w2=w1) ⟨rfl,rfl⟩).wp (fun u w2⟨hu,hw⟩=> ?_)
 subst hu hw
 have r2:=r1.next (o:=o36) (by unfold fS;rw [d36];rfl) (ea.refl r1.st.hp) (res:= .t (.c .dead)) (v:= .iface 49 v) trivial
 obtain⟨c,hc⟩:∃c,c=b.put o36.dst (.iface 49 v):=⟨_,rfl⟩
 have v36:c.tmps.getD 36 undef= .iface 49 v:=by rw [hc,eD,if_pos ⟨d36,by rw [hb1];decide⟩]
 rw [←hc]at r2⊢
 have hc1:c.tmps.size=40:=r2.sz
 clear hc x36
 unfold wpList
 rw [if_pos (wnt _ _ g37)]
 left
 obtain⟨p2,hp2⟩:=nmE (c.tmps.getD 2 undef)
 obtain⟨p5,hp5⟩:=nmE (c.tmps.getD 5 undef)
 have x37:(execOp c.eval o37).run prog w2= .ok (.value (.func (.func 123) #[] #[p2,p5])) w2:=by
  simp [execOp,e37,Act.eval,←hp2,←hp5,Instr.makeFunc]
 refine(Yl.value x37 (R:=fun u w3=>u= .func (.func 123) #[] #[p2,p5]∧w3=w2) ⟨rfl,rfl⟩).wp (fun u w3⟨hu,hw⟩=> ?_)
 subst hu hw
 have r3:=r2.next (o:=o37) (by unfold fS;rw [d37];rfl) (ea.refl r2.st.hp) (res:= .t (.c .dead)) (v:= .func (.func 123) #[] #[p2,p5]) trivial
 obtain⟨e,he⟩:∃e,e=c.put o37.dst (.func (.func 123) #[] #[p2,p5]):=⟨_,rfl⟩
 have v37:e.tmps.getD 37 undef= .func (.func 123) #[] #[p2,p5]:=by rw [he,eD,if_pos ⟨d37,by rw [hc1];decide⟩]
 have v36:e.tmps.getD 36 undef= .iface 49 v:=by rw [he,eD,if_neg (by rw [d37];simp),v36]
 rw [←he]at r3⊢
 have t2:=r2.tm 2
 have t5:=r2.tm 5
 rw [←hp2]at t2
 rw [←hp5]at t5
 simp only [put,d36,d35,h2,h5,zqy,Nat.reduceEqDiff,if_false]at t2 t5
 have he1:e.tmps.size=40:=r3.sz
 clear he x37 r2
 unfold wpList
 rw [if_pos (wnt _ _ g38)]
 left
 have hH:=r3.st.hp
 rcases t2 with hx|⟨ab,b0,cap0,h20',hm0,rfl⟩
 ·rw [H0]at hx;cases hx
 rw [H0]at h20';cases h20'
 rcases t5 with hx|⟨ab,b1,cap1,h21',hm1,rfl⟩
 ·rw [H1]at hx;cases hx
 rw [H1]at h21';cases h21'
 simp only [Nat.zero_mul,Nat.add_zero]at *
 have hcall:∀{R:Value→World→Prop},Calls prog 122 #[.iface 49 v,.func (.func 123) #[] #[.pointer (some ⟨b0,0,none⟩),.pointer (some ⟨b1,0,none⟩)]] w3 (fun x w'=>x= .returned (.tuple #[])∧R (.tuple #[]) w')→Yl prog o38 e w3 R:=fun hR=>by
  unfold Yl
  rw [pd e38 k38 (by kernel_rfl),a38]
  have:(#[Operand.tmp 36,Operand.tmp 37].map e.eval)= #[.iface 49 v,.func (.func 123) #[] #[.pointer (some ⟨b0,0,none⟩),.pointer (some ⟨b1,0,none⟩)]]:=by simp [Act.eval,v36,v37]
  rw [this]
  exact hR.mono fun x w'⟨h1,h2⟩=>⟨_,h1,h2⟩
 have hfin:∀(H':AH)(w':World),ea F1 w3 m1 h' w' m1 H'→H'=toH [.bx tT 1 [.view (vwA ak.ac ns)],.bx tI 1 [.own 2],.rw ⟨3,1,vw ao (ia (io ns) E)⟩]→wpList prog #[o35,o36,o37,o38] (ow F w0 m0 h0 40 Q) [] (e.put o38.dst (.tuple #[])) w':=fun H' w' hs heq=>by
  subst heq
  have r4:=r3.next (o:=o38) (by unfold fS;rw [d38];rfl) hs (res:= .t (.c .dead)) (v:= .tuple #[]) trivial
  exact⟨_,_,_,F1,by simpa only [d35,d36,d37,d38,vr,sB]using hQ,hGr,r4⟩
 refine(hcall (R:=fun u w'=>u= .tuple #[]∧∃H',ea F1 w3 m1 h' w' m1 H'∧H'=toH [.bx tT 1 [.view (vwA ak.ac ns)],.bx tI 1 [.own 2],.rw ⟨3,1,vw ao (ia (io ns) E)⟩]) ?_).wp (fun u w'⟨hu,H',hs,heq⟩=>by subst hu;exact hfin H' w' hs heq)
 rcases hv with hx|⟨ab,hab,hv⟩
 ·rw [H2]at hx;cases hx
 rw [H2]at hab;cases hab
 simp only [af]at hv
 by_cases hE1:E.length≤1
 ·have hss:ia (io ns) E=E:=by
   match E,hE1 with
   | [],_=>rfl
   | [x],_=>rfl
  obtain⟨p,cc,rfl⟩:∃p cc,v= .slice p E.length cc:=by
   rcases hv with⟨bb,cc,_,rfl⟩|⟨_,h0,rfl⟩
   ·exact⟨_,_,rfl⟩
   ·exact⟨none,0,by rw [h0]⟩
  refine(zt (w:=w3) hE1 _ _ _).mono ?_
  rintro x w' ⟨rfl,os,rfl⟩
  refine⟨rfl,rfl,h',sk (ea.refl hH) rfl rfl rfl (by simp) (fun b hb=> ?_),by rw [hss,hH']⟩
  simp only [grow,Array.getElem?_append,hb,if_true]
 have hE2:2≤E.length:=by omega
 obtain⟨b2,cap,hm2,rfl⟩:∃b2 cap,m1[2]? =some (some (b2,cap))∧v= .slice (some ⟨b2,0,none⟩) E.length cap:=by
  rcases hv with⟨bb,cc,h1,h2⟩|⟨_,h0,_⟩
  ·exact⟨bb,cc,h1,h2⟩
  ·omega
 obtain⟨_,hF2,cur,hcur,hcs,hcl,hcm,hce⟩:=hH.get H2 H2 hm2
 simp only [Nat.mul_one,af]at hcs hcl hce
 obtain⟨_,hF1b,cur1,hcur1,_,_,_,hce1⟩:=hH.get H1 H1 hm1
 obtain⟨_,hF0b,cur0,hcur0,_,_,_,hce0⟩:=hH.get H0 H0 hm0
 have l2:=(hH.lt H2 hm2).2
 have l1:=(hH.lt H1 hm1).2
 have l0:=(hH.lt H0 hm0).2
 have n12:b1≠b2:=fun h=>by subst h;have:=hH.inj 1 2 _ _ _ _ _ H1 H2 hm1 hm2;cases this
 have n02:b0≠b2:=fun h=>by subst h;have:=hH.inj 0 2 _ _ _ _ _ H0 H2 hm0 hm2;cases this
 have hHo:Holds (Value.int .i64) w3 b2 0 E.toArray:=fun j hj=>by
  have hj':j<E.length:=by simpa using hj
  obtain⟨_,hq⟩:=hce j _ (bh (c:=ao) (Cu hj'))
  obtain⟨u,hu,_,hr⟩:=hq 0 _ rfl
  have hr':u= .int .i64 E[j]! :=hr
  subst hr'
  refine⟨?_,?_⟩
  ·simp only [World.cell?,hcur]
   simpa [getElem!_pos E j hj']using hu
  ·simp [World.frozen?,hcur]
 have hco:w3.cell? ⟨b1,0,none⟩=some (.slice (some ⟨b2,0,none⟩) E.length cap):=by
  obtain⟨_,hq⟩:=hce1 0 _ rfl
  obtain⟨u,hu,_,hr⟩:=hq 0 _ rfl
  rcases hr with hx|⟨ab,hab,hr⟩
  ·rw [H2]at hx;cases hx
  rw [H2]at hab;cases hab
  simp only [af,hm2,zqy,Prod.mk.injEq]at hr
  rcases hr with⟨bb,cc,⟨rfl,rfl⟩,rfl⟩|⟨hx,_⟩
  ·simp only [World.cell?,hcur1]
   simpa using hu
  ·cases hx
 have hct:RPL F1 w3 b0 0 [.view (vwA ak.ac ns)]:=by
  obtain⟨_,hq⟩:=hce0 0 _ rfl
  obtain⟨u,hu,ho,hr⟩:=hq 0 _ rfl
  refine RPL.mk fun t c ht=> ?_
  obtain rfl:t=0:=by
   have:=(List.getElem?_eq_some_iff.1 ht).1
   simp at this;omega
  obtain rfl:=Option.some.inj ht.symm
  exact⟨u,by simp only [World.cell?,hcur0];simpa using hu,ho,hr⟩
 have hless:=vD (P:=prog) (g:=123) (f:=io ns) (p:=fun k=>isN ns k=true) (cs:=[.view (vwA ak.ac ns)]) (n:=E.length) (fun dk i j hd hp hi hj=>yN ns dk hl hp i j (by omega) (by omega)) hH.old hF2 l2 l1 l0 n12 n02 hco hcl hcm hct (d:=E.toArray) (by simp) hHo
 have hs:=Bo (w:=w3) (g:=123) (blk:=b2) (c:=cap) (lb:= #[.pointer (some ⟨b0,0,none⟩),.pointer (some ⟨b1,0,none⟩)]) (d:=E.toArray) (io ns) (fun k=>isN ns k=true) (enters_of func123 (by kernel_rfl) rfl) (by simpa using hE2) (by simpa using h20) (by simpa using hless) (fun i hi=>hE _ (by
  have hi':i<E.length:=by simpa using hi
  have:=zqd (Cu hi')
  simp [getElem!_pos E i hi',hi'])) hHo l2
 simp only [List.size_toArray]at hs
 refine hs.mono ?_
 rintro x w' ⟨rfl,hS⟩
 have hsz:(Sort.insertionSort (ltF (io ns)) E.toArray 0 E.length).size=E.length:=by
  have:=congrArg List.length (vb (io ns) E)
  have h3:=kD (io ns) E
  unfold ia at h3
  rw [h3]at this
  simpa using this
 refine⟨rfl,rfl,_,wo hH H2 hm2 hsz hS,?_⟩
 have:=vb (io ns) E
 simp only [List.size_toArray]at this
 rw [this,hH']
 rfl
end Go.Proofs.YtdnnffbbhijmkaaGreat
