/- Valid trees. -/
import Derived.Test.YtbnplcingdgaaaaGreatC9as
set_option linter.unusedVariables false
set_option linter.unusedSimpArgs false
set_option maxHeartbeats 8000000
namespace Go.Proofs.YtbnplcingdgaaaaGreat
open Go.ChangeShapes Go.WideShapes Go.ChangeAt Go.RowKit Am Go.Proofs.Tryz
set_option maxRecDepth 100000
def pc(r:aQ):Bool:=rng r.room (-1) 1048576&&(rng r.wide 0 1048576&&rng r.high 0 1048576)
def zW(rs:List aQ):Bool:=rng (rs.length:Int) 1 6&&rs.all pc
variable {z M:Int}
theorem BX{xs:List aQ}(hM:M=(xs.length:Int))(hz:M<=z)(h:∀(i:Nat)(v:aQ),i<z.toNat->xs[i]? =some v->pc v=true):xs.all pc=true:=by
 rw [zqf]
 exact qe hM hz h
theorem BZ{xs:List aQ}{i:Nat}{v:aQ}(h:xs[i]? =some v)(hv:pc v=false):xs.all pc=false:=by
 rw [List.all_eq_false]
 exact⟨v,zqd h,by rw [hv];decide⟩
def isN(ns:List af)(n:Int):Bool:=rng n 1 (ns.length:Int)
def upN(ns:List af)(n:Int):Int:=match ns[(n-1).toNat]? with|some x=>x.up|none=>0
def l9(ns:List af):Nat->Int->Int->Int
 |0,k,n=>if n=0 then k else 0
 |f+1,k,n=>if n=0 then k else if isN ns n=true then l9 ns f (k+1) (upN ns n)else 0
def kC(ns:List af)(n:Int):Int:=l9 ns ns.length 0 n
theorem gN(ns:List af)(f:Nat)(k:Int):l9 ns f k 0=k:=by cases f<;>simp [l9]
theorem nr(ns:List af)(f:Nat)(k n:Int)(h0:n≠0)(h:isN ns n=false):l9 ns f k n=0:=by cases f<;>simp [l9,h0,h]
theorem eV(ns:List af){f:Nat}{k n:Int}(h0:n≠0)(h:isN ns n=true):l9 ns (f+1) k n=l9 ns f (k+1) (upN ns n):=by simp [l9,h0,h]
theorem p7(ns:List af){k n:Int}(h0:n≠0):l9 ns 0 k n=0:=by simp [l9,h0]
variable {ns:List af}{n:Int}
theorem aZ(h:isN ns n=true):1<=n/\n<=(ns.length:Int)/\∃x,ns[(n-1).toNat]? =some x:=by
 simp only [isN,rng,zqs,zqp]at h
 exact⟨h.1,h.2,ns[(n-1).toNat]'(by omega),zqc _⟩
theorem mg{x:af}(h:ns[(n-1).toNat]? =some x):upN ns n=x.up:=by unfold upN;rw [h]
theorem tH{M d:Int}{L:Nat}(hM:M=(L:Int))(h0:0<=d)(h1:d<M):L-d.toNat=(L-(d+1).toNat)+1:=by omega
theorem rf{M d:Int}{L:Nat}(hM:M=(L:Int))(h:d=M):L-d.toNat=0:=by omega
def cnt(xs:List Int)(n:Int):Int:=(xs.map fun k=>if k=n then 1 else 0).sum
theorem di(V:LLA)(n:Int):PC0 21 [.agg [.view V],ai n] (.t (abl (rng n 1 (aD V)))):=by
 refine ae (aP f21) aC func21 fun g F hg hF=> ?_
 cbv
 repeat'(first|(refine bI hg (bj _ _ _) rfl (fun R0 ha=> ?_);cases R0<;>cbv)|(refine bf hg (bj _ _ _) rfl (fun R0 ha=> ?_);cases R0<;>cbv))
 all_goals exact aY hF (by rw [ha,bH hg])
theorem gF(V:LLA)(n:Int):PC0 35 [.agg [.view V],ai n] (.t (abl (rng n 1 (aD V)))):=by
 refine ae (aP f35) aC func35 fun g F hg hF=> ?_
 cbv
 repeat'(first|(refine bI hg (bq _ _ _) rfl (fun R0 ha=> ?_);cases R0<;>cbv)|(refine bf hg (bq _ _ _) rfl (fun R0 ha=> ?_);cases R0<;>cbv))
 all_goals exact aY hF (by rw [ha,bH hg])
theorem br(V:LLA)(n:Int)(h1:1<=n)(h2:n<=1048576){a0:Int}{Va1:LLA}{a2:Int}{a3:Int}{a4:Int}{a5:Int}{a6:Int}{a7:Int}{a8:Bool}{a9:Bool}{a10:Int}{a11:Int}{a12:Int}{a13:Int}{a14:Int}{a15:Int}{a16:Int}{a17:Int}{a18:Int}{a19:Int}{a20:Int}{a21:Int}{a22:Int}{a23:Int}{a24:Int}{a25:Int}{a26:Int}{a27:Int}{a28:Int}{a29:Int}{a30:Int}{a31:Int}{a32:Int}{a33:Int}{a34:Int}{a35:Int}{a36:Int}{a37:Int}{a38:Int}{a39:Int}{a40:Int}{a41:Int}{a42:Int}{a43:Int}{a44:Int}{a45:Int}{a46:Int}{a47:Int}{a48:Int}{a49:Int}{a50:Int}{a51:Int}{a52:Int}{a53:Int}{a54:Int}{a55:Int}{a56:Int}{a57:Int}{a58:Int}{a59:Int}{a60:Int}{a61:Int}{a62:Bool}{Va63:LLA}(hy:V[(n-1).toNat]? =some [.J a0,.view Va1,.J a2,.J a3,.J a4,.J a5,.J a6,.J a7,.B a8,.B a9,.J a10,.J a11,.J a12,.J a13,.J a14,.J a15,.J a16,.J a17,.J a18,.J a19,.J a20,.J a21,.J a22,.J a23,.J a24,.J a25,.J a26,.J a27,.J a28,.J a29,.J a30,.J a31,.J a32,.J a33,.J a34,.J a35,.J a36,.J a37,.J a38,.J a39,.J a40,.J a41,.J a42,.J a43,.J a44,.J a45,.J a46,.J a47,.J a48,.J a49,.J a50,.J a51,.J a52,.J a53,.J a54,.J a55,.J a56,.J a57,.J a58,.J a59,.J a60,.J a61,.B a62,.view Va63]):PC0 23 [.agg [.view V],ai n] (.t (.agg [.J a0,.view Va1,.J a2,.J a3,.J a4,.J a5,.J a6,.J a7,.B a8,.B a9,.J a10,.J a11,.J a12,.J a13,.J a14,.J a15,.J a16,.J a17,.J a18,.J a19,.J a20,.J a21,.J a22,.J a23,.J a24,.J a25,.J a26,.J a27,.J a28,.J a29,.J a30,.J a31,.J a32,.J a33,.J a34,.J a35,.J a36,.J a37,.J a38,.J a39,.J a40,.J a41,.J a42,.J a43,.J a44,.J a45,.J a46,.J a47,.J a48,.J a49,.J a50,.J a51,.J a52,.J a53,.J a54,.J a55,.J a56,.J a57,.J a58,.J a59,.J a60,.J a61,.B a62,.view Va63])):=by
 obtain⟨m,hm⟩:=nmE (n-1)
 rw [<-hm]at hy
 refine ae (aP f23) aC func23 fun g F hg hF=> ?_
 cbv
 have e1:g .w .sub .i64 n 1=m:=by rw [fd hg,aw _ (by omega),hm]
 rw [e1]
 refine goX hg _ (by omega) hy rfl ?_
 cbv
 exact ql hF rfl ⟨rfl,rfl⟩
theorem ei(V:LLA)(n:Int)(h1:1<=n)(h2:n<=1048576){a0:Int}{Va1:LLA}{a2:Int}{a3:Int}{a4:Int}{a5:Int}{a6:Int}{a7:Int}{a8:Bool}{a9:Bool}{a10:Int}{a11:Int}{a12:Int}{a13:Int}{a14:Int}{a15:Int}{a16:Int}{a17:Int}{a18:Int}{a19:Int}{a20:Int}{a21:Int}{a22:Int}{a23:Int}{a24:Int}{a25:Int}{a26:Int}{a27:Int}{a28:Int}{a29:Int}{a30:Int}{a31:Int}{a32:Int}{a33:Int}{a34:Int}{a35:Int}{a36:Int}{a37:Int}{a38:Int}{a39:Int}{a40:Int}{a41:Int}{a42:Int}{a43:Int}{a44:Int}{a45:Int}{a46:Int}{a47:Int}{a48:Int}{a49:Int}{a50:Int}{a51:Int}{a52:Int}{a53:Int}{a54:Int}{a55:Int}{a56:Int}{a57:Int}{a58:Int}{a59:Int}{a60:Int}{a61:Int}{a62:Bool}{Va63:LLA}(hy:V[(n-1).toNat]? =some [.J a0,.view Va1,.J a2,.J a3,.J a4,.J a5,.J a6,.J a7,.B a8,.B a9,.J a10,.J a11,.J a12,.J a13,.J a14,.J a15,.J a16,.J a17,.J a18,.J a19,.J a20,.J a21,.J a22,.J a23,.J a24,.J a25,.J a26,.J a27,.J a28,.J a29,.J a30,.J a31,.J a32,.J a33,.J a34,.J a35,.J a36,.J a37,.J a38,.J a39,.J a40,.J a41,.J a42,.J a43,.J a44,.J a45,.J a46,.J a47,.J a48,.J a49,.J a50,.J a51,.J a52,.J a53,.J a54,.J a55,.J a56,.J a57,.J a58,.J a59,.J a60,.J a61,.B a62,.view Va63]):PC0 40 [.agg [.view V],ai n] (.t (.agg [.J a0,.view Va1,.J a2,.J a3,.J a4,.J a5,.J a6,.J a7,.B a8,.B a9,.J a10,.J a11,.J a12,.J a13,.J a14,.J a15,.J a16,.J a17,.J a18,.J a19,.J a20,.J a21,.J a22,.J a23,.J a24,.J a25,.J a26,.J a27,.J a28,.J a29,.J a30,.J a31,.J a32,.J a33,.J a34,.J a35,.J a36,.J a37,.J a38,.J a39,.J a40,.J a41,.J a42,.J a43,.J a44,.J a45,.J a46,.J a47,.J a48,.J a49,.J a50,.J a51,.J a52,.J a53,.J a54,.J a55,.J a56,.J a57,.J a58,.J a59,.J a60,.J a61,.B a62,.view Va63])):=by
 obtain⟨m,hm⟩:=nmE (n-1)
 rw [<-hm]at hy
 refine ae (aP f40) aC func40 fun g F hg hF=> ?_
 cbv
 have e1:g .w .sub .i64 n 1=m:=by rw [fd hg,aw _ (by omega),hm]
 rw [e1]
 refine goX hg _ (by omega) hy rfl ?_
 cbv
 exact ql hF rfl ⟨rfl,rfl⟩
theorem nI(rs:List aQ)(hl:rs.length<=1048576):PC0 30 [.agg [.view (vw aQ.c rs)]] (.t (abl (zW rs))):=by
 obtain⟨V,hV⟩:=nmE (vw aQ.c rs)
 have hn:=lmV hV
 have iV:=imV hV
 have kV:=kmV (k:=3) hV fun _=>rfl
 have dV:=dmV hV
 have hd:aD V=(rs.length:Int):=by rw [az];omega
 have hf:0<=aD V:=by omega
 have hm:aD V<=1048576:=by omega
 have hj:zW rs=(rng (aD V) 1 6&&rs.all pc):=by rw [hd];rfl
 rw [<-hV,hj]
 refine ae (aP f30) aC func30 fun g F hg hF=> ?_
 cbv
 refine cV hg aC (by kernel_rfl) (fun z:Int=>[(1,.p 0),(3,.i z)]) (fun _=>[.bx 53 1 [.view V]]) (fun z=>0<=z/\z<=aD V/\∀(i:Nat)(v:aQ),i<z.toNat->rs[i]? =some v->pc v=true) (fun z=>(aD V).toNat-z.toNat)
  0 [some 0] ⟨Int.le_refl 0,hf,fun i v hi=>by simp at hi⟩ (wkS [0] (by decide) ⟨⟨_,rfl,rfl,rfl⟩,trivial⟩ zr2) (fun z B hs hB=> ?_)
 obtain⟨h0,h1,h2⟩:=hs
 cbv
 cases hc:g .q .lss z (g .ln V)
 ·rw [bD hg,bH hg,zqo]at hc
  have he:=BX hd (by omega) h2
  cbv
  repeat'(first|(refine bI hg (bj _ _ _) rfl (fun R0 hb=> ?_);cases R0<;>cbv)|(refine bf hg (bj _ _ _) rfl (fun R0 hb=> ?_);cases R0<;>cbv))
  all_goals exact aY hF (by rw [hb,bH hg,he,Bool.and_true])
 ·rw [bD hg,bH hg,zqp]at hc
  cbv
  obtain⟨x,hx⟩:=uI (xs:=rs) h0 (fT hd hc)
  have hk:V[z.toNat]? =some (lc (aQ.c x)):=by rw [hV];exact bu hx
  obtain⟨x0,x1,x2⟩:=x
  refine goX hg _ h0 hk rfl ?_
  cbv
  have ha:pc ⟨x0,x1,x2⟩=false->(rng (aD V) 1 6&&rs.all pc)=false:=fun h=>by rw [BZ hx h,Bool.and_false]
  have e1:g .w .add .i64 z 1=z+1:=by rw [aJ hg,aw _ (by omega)]
  repeat'(first|(refine bI hg (bj _ _ _) rfl (fun R0 hb=> ?_);cases R0<;>cbv)|(refine bf hg (bj _ _ _) rfl (fun R0 hb=> ?_);cases R0<;>cbv))
  all_goals first
   |exact aY hF (ha (by simp only [pc];clear hF;simp_all)).symm
   |skip
  have hh:pc ⟨x0,x1,x2⟩=true:=by simp only [pc];clear hF hB;simp_all
  rw [e1]
  refine ig hB (z+1) [some 0] (wkS [0] (by decide) ⟨⟨_,rfl,rfl,rfl⟩,trivial⟩ zr2) ⟨by omega,by omega,fun i v hi hv=> ?_⟩ (by omega)
  by_cases hi2:i<z.toNat
  ·exact h2 i v hi2 hv
  ·rw [show i=z.toNat by omega,hx]at hv
   cases hv
   exact hh
theorem nS(rs:List aQ)(hl:rs.length<=1048576):PC0 45 [.agg [.view (vw aQ.c rs)]] (.t (abl (zW rs))):=by
 obtain⟨V,hV⟩:=nmE (vw aQ.c rs)
 have hn:=lmV hV
 have iV:=imV hV
 have kV:=kmV (k:=3) hV fun _=>rfl
 have dV:=dmV hV
 have hb:aD V=(rs.length:Int):=by rw [az];omega
 have hf:0<=aD V:=by omega
 have hm:aD V<=1048576:=by omega
 have hj:zW rs=(rng (aD V) 1 6&&rs.all pc):=by rw [hb];rfl
 rw [<-hV,hj]
 refine ae (aP f45) aC func45 fun g F hg hF=> ?_
 cbv
 have cr:=bq (g .ln V) 1 6
 rw [bH hg]at cr
 obtain⟨Q,hQ⟩:=nmE (rng (aD V) 1 6)
 rw [<-hQ]at cr hF
 rw [bH hg]
 (first|refine ad hg cr ?_|refine aa hg cr ?_)
 cases Q
 case false=>
  cbv
  exact aY hF rfl
 cbv
 refine cV hg aC (by kernel_rfl) (fun z:Int=>[(1,.p 0),(11,.v V),(12,.i (g .ln V)),(13,.i z)]) (fun _=>[.bx 53 1 [.view V]]) (fun z=>0<=z/\z<=aD V/\∀(i:Nat)(v:aQ),i<z.toNat->rs[i]? =some v->pc v=true) (fun z=>(aD V).toNat-z.toNat)
  0 [some 0] ⟨Int.le_refl 0,hf,fun i v hi=>by simp at hi⟩ (wkS [0] (by decide) ⟨⟨_,rfl,rfl,rfl⟩,trivial⟩ zr4) (fun z B hs hB=> ?_)
 obtain⟨h0,h1,h2⟩:=hs
 cbv
 cases hc:g .q .lss z (g .ln V)
 ·rw [bD hg,bH hg,zqo]at hc
  have hd:=BX hb (by omega) h2
  cbv
  exact aY hF (by rw [hd];rfl)
 ·rw [bD hg,bH hg,zqp]at hc
  cbv
  obtain⟨x,hx⟩:=uI (xs:=rs) h0 (fT hb hc)
  have hk:V[z.toNat]? =some (lc (aQ.c x)):=by rw [hV];exact bu hx
  obtain⟨x0,x1,x2⟩:=x
  refine goX hg _ h0 hk rfl ?_
  cbv
  have ha:pc ⟨x0,x1,x2⟩=false->(true&&rs.all pc)=false:=fun h=>by rw [BZ hx h,Bool.and_false]
  have e1:g .w .add .i64 z 1=z+1:=by rw [aJ hg,aw _ (by omega)]
  repeat'(first|(refine bI hg (bq _ _ _) rfl (fun R0 he=> ?_);cases R0<;>cbv)|(refine bf hg (bq _ _ _) rfl (fun R0 he=> ?_);cases R0<;>cbv))
  all_goals first
   |exact aY hF (ha (by simp only [pc];clear hF;simp_all)).symm
   |skip
  have hh:pc ⟨x0,x1,x2⟩=true:=by simp only [pc];clear hF hB;simp_all
  rw [e1]
  refine ig hB (z+1) [some 0] (wkS [0] (by decide) ⟨⟨_,rfl,rfl,rfl⟩,trivial⟩ zr4) ⟨by omega,by omega,fun i v hi hv=> ?_⟩ (by omega)
  by_cases hi2:i<z.toNat
  ·exact h2 i v hi2 hv
  ·rw [show i=z.toNat by omega,hx]at hv
   cases hv
   exact hh
theorem oV(xs:List Int)(n:Int)(hl:xs.length<=1048576):PC0 29 [.c (.view (vw aj xs)),ai n] (.i (cnt xs n)):=by
 obtain⟨V,hV⟩:=nmE (vw aj xs)
 have hj:=lmV hV
 have iV:=imV hV
 have kV:=kmV (k:=1) hV fun _=>rfl
 have dV:=dmV hV
 have hf:aD V=(xs.length:Int):=by rw [az];omega
 have hd:0<=aD V:=by omega
 have hi:aD V<=1048576:=by omega
 have ha:∀z:Int,aD V<=z->ug (fun k=>if k=n then 1 else 0) xs z.toNat=cnt xs n:=fun z hz=>lZ _ (by omega)
 rw [<-hV]
 refine ae (aP f29) aC func29 fun g F hg hF=> ?_
 cbv
 refine cV hg aC (by kernel_rfl) (fun s:Int×Int=>[(0,.v V),(1,.i n),(5,.i s.2),(6,.i s.1)]) (fun _=>[]) (fun s=>0<=s.1/\s.1<=aD V/\0<=s.2/\s.2<=s.1/\s.2=ug (fun k=>if k=n then 1 else 0) xs s.1.toNat) (fun s=>(aD V).toNat-s.1.toNat)
  (0,0) [] ⟨Int.le_refl 0,hd,Int.le_refl 0,Int.le_refl 0,(jU _ _).symm⟩ (wk0 zr4) (fun s B hs hB=> ?_)
 obtain⟨z,d⟩:=s
 obtain⟨h0,h1,h2,h3,h4⟩:=hs
 simp only at h0 h1 h2 h3 h4
 cbv
 cases hc:g .q .lss z (g .ln V)
 ·rw [bD hg,bH hg,zqo]at hc
  cbv
  exact bk hF (by rw [h4,ha z (by omega)])
 ·rw [bD hg,bH hg,zqp]at hc
  cbv
  obtain⟨x,hx⟩:=uI (xs:=xs) h0 (fT hf hc)
  have hh:V[z.toNat]? =some (lc (aj x)):=by rw [hV];exact bu hx
  have hs:=jV (fun k:Int=>if k=n then(1:Int)else 0) hx
  refine goX hg _ h0 hh rfl ?_
  cbv
  have e1:g .w .add .i64 z 1=z+1:=by rw [aJ hg,aw _ (by omega)]
  cases he:g .q .eql x n
  ·have hb:x≠n:=by rw [bB hg]at he;simpa using he
   simp only [if_neg hb]at hs
   cbv
   rw [e1]
   exact ig hB (z+1,d) [] (wk0 zr4) ⟨by simp only;omega,by simp only;omega,h2,by simp only;omega,by simp only;rw [show(z+1).toNat=z.toNat+1 by omega,hs];omega⟩ (by show(aD V).toNat-(z+1).toNat<(aD V).toNat-z.toNat;omega)
  ·have hb:x=n:=by rw [bB hg]at he;simpa using he
   simp only [if_pos hb]at hs
   cbv
   have e2:g .w .add .i64 d 1=d+1:=by rw [aJ hg,aw _ (by omega)]
   rw [e1,e2]
   exact ig hB (z+1,d+1) [] (wk0 zr4) ⟨by simp only;omega,by simp only;omega,by simp only;omega,by simp only;omega,by simp only;rw [show(z+1).toNat=z.toNat+1 by omega,hs];omega⟩ (by show(aD V).toNat-(z+1).toNat<(aD V).toNat-z.toNat;omega)
theorem nX(ns:List af)(n0:Int)(hl:ns.length<=1048576):PC0 44 [.agg [.view (vwA af.ac ns)],ai n0] (.i (kC ns n0)):=by
 obtain⟨V,hV⟩:=nmE (vwA af.ac ns)
 have hc:aD V=(ns.length:Int):=by rw [az,hV,bm]
 have xq:0<=aD V:=by omega
 have xr:aD V<=1048576:=by omega
 have hh:∀n,isN ns n=rng n 1 (aD V):=fun n=>by rw [hc];rfl
 have xu:∀d:Int,0<=d->d<aD V->ns.length-d.toNat=(ns.length-(d+1).toNat)+1:=fun d h0 h1=>tH hc h0 h1
 have xt:∀d:Int,d=aD V->ns.length-d.toNat=0:=fun d h=>rf hc h
 have hm:l9 ns (ns.length-(0:Int).toNat) 0 n0=kC ns n0:=rfl
 obtain⟨R,hR⟩:=nmE (kC ns n0)
 rw [<-hR]at hm⊢
 rw [<-hV]
 refine ae (aP f44) aC func44 fun g F hg hF=> ?_
 cbv
 refine cV hg aC (by kernel_rfl) (fun s:Int×Int=>[(1,.i s.1),(2,.p 0),(5,.i s.2)]) (fun _=>[.bx 38 1 [.view V]]) (fun s=>0<=s.2/\s.2<=aD V/\l9 ns (ns.length-s.2.toNat) s.2 s.1=R) (fun s=>(aD V).toNat-s.2.toNat)
  (n0,0) [some 0] ⟨Int.le_refl 0,xq,hm⟩ (wkS [0] (by decide) ⟨⟨_,rfl,rfl,rfl⟩,trivial⟩ zr3) (fun s B hs hB=> ?_)
 obtain⟨n,d⟩:=s
 obtain⟨h0,h1,h2⟩:=hs
 simp only at h0 h1 h2
 cbv
 cases hn:g .q .neq n 0
 ·have hb:n=0:=by rw [dF hg]at hn;simpa using hn
  cbv
  exact bk hF (by rw [<-h2,hb,gN])
 have hb:n≠0:=by rw [dF hg]at hn;simpa using hn
 cbv
 have e1:g .w .add .i64 d 1=d+1:=by rw [aJ hg,aw _ (by omega)]
 obtain⟨D,hD⟩:=nmE (d+1)
 rw [<-hD]at e1
 rw [e1]
 have ci:=gF V n
 rw [<-hh n]at ci
 cases hi:isN ns n
 ·rw [hi]at ci
  refine ad hg ci ?_
  cbv
  exact bk hF (by rw [<-h2,nr ns _ _ _ hb hi])
 rw [hi]at ci
 refine ad hg ci ?_
 cbv
 cases hd:g .q .gtr D (g .ln V)
 case true=>
  rw [dr hg,bH hg,zqp]at hd
  cbv
  exact bk hF (by rw [<-h2,xt d (by omega),p7 ns hb])
 rw [dr hg,bH hg,zqo]at hd
 have xw:d<aD V:=by omega
 have xs:=xu d h0 xw
 obtain⟨i1,i2,x,hx⟩:=aZ hi
 have xv:n<=1048576:=Int.le_trans (hc▸i2) xr
 have he:V[(n-1).toNat]? =some x.ac:=by rw [hV];exact fE hx
 have xx:=mg hx
 have hj:l9 ns (ns.length-D.toNat) D x.up=R:=by rw [<-h2,xs,eV ns hb hi,xx,hD]
 obtain⟨a0,a1,⟨a2,a3,a4,a5,a6,a7,a8,a9,hp,hq,hr,⟨ht,hu⟩,⟨hv,hw⟩,⟨hy,hz⟩,⟨hA,hC⟩,⟨hE,hG⟩,⟨hH,hI⟩,⟨hJ,hK⟩,hL,⟨⟨hM,hN⟩,⟨hO,hP⟩,⟨hQ,hS⟩,⟨hT,hU⟩,⟨hW,hX⟩,⟨hY,hZ⟩⟩,⟨⟨h3,h4⟩,⟨h5,h6⟩,⟨h7,h8⟩,⟨h9,xa⟩,⟨xb,xc⟩,⟨xd,xe⟩⟩,⟨xf,xg,xh,xi⟩,⟨xj,xk,xl,xm⟩,xn,xo⟩,xp,⟨hk⟩⟩:=x
 replace he:V[(n-1).toNat]? =some [.J a0,.view (vw aj a1),.J a2,.J a3,.J a4,.J a5,.J a6,.J a7,.B a8,.B a9,.J hp,.J hq,.J hr,.J ht,.J hu,.J hv,.J hw,.J hy,.J hz,.J hA,.J hC,.J hE,.J hG,.J hH,.J hI,.J hJ,.J hK,.J hL,.J hM,.J hN,.J hO,.J hP,.J hQ,.J hS,.J hT,.J hU,.J hW,.J hX,.J hY,.J hZ,.J h3,.J h4,.J h5,.J h6,.J h7,.J h8,.J h9,.J xa,.J xb,.J xc,.J xd,.J xe,.J xf,.J xg,.J xh,.J xi,.J xj,.J xk,.J xl,.J xm,.J xn,.J xo,.B xp,.view (vw aQ.c hk)]:=he
 obtain⟨xy,hf⟩:=nmE (vw aj a1)
 obtain⟨ho,ha⟩:=nmE (vw aQ.c hk)
 rw [<-hf,<-ha]at he
 cbv
 refine ad hg (ei V n i1 xv he) ?_
 cbv
 exact ig hB (a0,D) [some 0] (wkS [0] (by decide) ⟨⟨_,rfl,rfl,rfl⟩,trivial⟩ zr3) ⟨by simp only;omega,by simp only;omega,hj⟩ (by show(aD V).toNat-D.toNat<(aD V).toNat-d.toNat;omega)
theorem nK(ns:List af)(n0:Int)(hl:ns.length<=1048576):PC0 28 [.agg [.view (vwA af.ac ns)],ai n0] (.i (kC ns n0)):=by
 obtain⟨V,hV⟩:=nmE (vwA af.ac ns)
 have hc:aD V=(ns.length:Int):=by rw [az,hV,bm]
 have xz:0<=aD V:=by omega
 have xs:aD V<=1048576:=by omega
 have hk:∀n,isN ns n=rng n 1 (aD V):=fun n=>by rw [hc];rfl
 have xu:∀d:Int,0<=d->d<aD V->ns.length-d.toNat=(ns.length-(d+1).toNat)+1:=fun d h0 h1=>tH hc h0 h1
 have xt:∀d:Int,d=aD V->ns.length-d.toNat=0:=fun d h=>rf hc h
 have hq:l9 ns (ns.length-(0:Int).toNat) 0 n0=kC ns n0:=rfl
 obtain⟨R,hR⟩:=nmE (kC ns n0)
 rw [<-hR]at hq⊢
 rw [<-hV]
 refine ae (aP f28) aC func28 fun g F hg hF=> ?_
 cbv
 refine cV hg aC (by kernel_rfl) (fun s:Int×Int=>[(1,.i s.1),(2,.p 0),(5,.i s.2)]) (fun _=>[.bx 38 1 [.view V]]) (fun s=>0<=s.2/\s.2<=aD V+1/\(s.2<=aD V->l9 ns (ns.length-s.2.toNat) s.2 s.1=R)/\(s.2=aD V+1->R=0)) (fun s=>(aD V+1).toNat-s.2.toNat)
  (n0,0) [some 0] ⟨Int.le_refl 0,by simp only;omega,fun _=>hq,fun h=>by simp only at h;omega⟩ (wkS [0] (by decide) ⟨⟨_,rfl,rfl,rfl⟩,trivial⟩ zr3) (fun s B hs hB=> ?_)
 obtain⟨n,d⟩:=s
 obtain⟨h0,h1,h2,hh⟩:=hs
 simp only at h0 h1 h2 hh
 cbv
 cases hd:g .q .leq d (g .ln V)
 case false=>
  rw [iO hg,bH hg,zqo]at hd
  cbv
  exact bk hF (hh (by omega)).symm
 rw [iO hg,bH hg,zqp]at hd
 replace h2:=h2 hd
 clear hh
 cbv
 cases hn:g .q .eql n 0
 case true=>
  have hb:n=0:=by rw [bB hg]at hn;simpa using hn
  cbv
  exact bk hF (by rw [<-h2,hb,gN])
 have hb:n≠0:=by rw [bB hg]at hn;simpa using hn
 cbv
 have e1:g .w .add .i64 d 1=d+1:=by rw [aJ hg,aw _ (by omega)]
 have ci:=di V n
 rw [<-hk n]at ci
 cases hi:isN ns n
 ·rw [hi]at ci
  refine ad hg ci ?_
  cbv
  exact bk hF (by rw [<-h2,nr ns _ _ _ hb hi])
 rw [hi]at ci
 refine ad hg ci ?_
 obtain⟨i1,i2,x,hx⟩:=aZ hi
 have xv:n<=1048576:=Int.le_trans (hc▸i2) xs
 have hf:V[(n-1).toNat]? =some x.ac:=by rw [hV];exact fE hx
 have xx:=mg hx
 have hm:d<aD V->l9 ns (ns.length-(d+1).toNat) (d+1) x.up=R:=fun xw=>by rw [<-h2,xu d h0 xw,eV ns hb hi,xx]
 have ho:d=aD V->R=0:=fun he=>by rw [<-h2,xt d he,p7 ns hb]
 obtain⟨a0,a1,⟨a2,a3,a4,a5,a6,a7,a8,a9,ht,hu,hv,⟨hw,hy⟩,⟨hz,hA⟩,⟨hC,hD⟩,⟨hE,hG⟩,⟨hH,hI⟩,⟨hJ,hK⟩,⟨hL,hM⟩,hN,⟨⟨hO,hP⟩,⟨hQ,hS⟩,⟨hT,hU⟩,⟨hW,hX⟩,⟨hY,hZ⟩,⟨h3,h4⟩⟩,⟨⟨h5,h6⟩,⟨h7,h8⟩,⟨h9,xa⟩,⟨xb,xc⟩,⟨xd,xe⟩,⟨xf,xg⟩⟩,⟨xh,xi,xj,xk⟩,⟨xl,xm,xn,xo⟩,xp,xq⟩,xr,⟨hp⟩⟩:=x
 replace hf:V[(n-1).toNat]? =some [.J a0,.view (vw aj a1),.J a2,.J a3,.J a4,.J a5,.J a6,.J a7,.B a8,.B a9,.J ht,.J hu,.J hv,.J hw,.J hy,.J hz,.J hA,.J hC,.J hD,.J hE,.J hG,.J hH,.J hI,.J hJ,.J hK,.J hL,.J hM,.J hN,.J hO,.J hP,.J hQ,.J hS,.J hT,.J hU,.J hW,.J hX,.J hY,.J hZ,.J h3,.J h4,.J h5,.J h6,.J h7,.J h8,.J h9,.J xa,.J xb,.J xc,.J xd,.J xe,.J xf,.J xg,.J xh,.J xi,.J xj,.J xk,.J xl,.J xm,.J xn,.J xo,.J xp,.J xq,.B xr,.view (vw aQ.c hp)]:=hf
 obtain⟨xy,hj⟩:=nmE (vw aj a1)
 obtain⟨hr,ha⟩:=nmE (vw aQ.c hp)
 rw [<-hj,<-ha]at hf
 cbv
 refine ad hg (br V n i1 xv hf) ?_
 cbv
 rw [e1]
 exact ig hB (a0,d+1) [some 0] (wkS [0] (by decide) ⟨⟨_,rfl,rfl,rfl⟩,trivial⟩ zr3) ⟨by simp only;omega,by simp only;omega,fun h=>hm (by simp only at h;omega),fun h=>ho (by simp only at h;omega)⟩ (by show(aD V+1).toNat-(d+1).toNat<(aD V+1).toNat-d.toNat;omega)
def jf(ns:List af)(n:Int):List Int:=match ns[(n-1).toNat]? with|some x=>x.kids|none=>[]
def dz(ns:List af)(n:Int)(k:Int):Bool:=isN ns k&&decide (upN ns k=n)
def BS(x:af):Bool:= !((x.measured&&(!zW x.table.rules||decide ((0:Int)<(x.kids.length:Int))))||(!x.measured&&decide ((0:Int)<(x.table.rules.length:Int))))
def sB(ns:List af)(n up:Int):Bool:=decide (up=0)||decide (cnt (jf ns up) n=1)
def aR(ns:List af)(n:Int)(x:af):Bool:=gP x.style&&(rng (kC ns n) 1 4&&(sB ns n x.up&&(x.kids.all (dz ns n)&&BS x)))
def goT(ns:List af):List af->Int->Bool
 | [],_=>true
 |x::xs,i=>aR ns (i+1) x&&goT ns xs (i+1)
def aM(ns:List af):Bool:=decide ((ns.length:Int)<=12)&&goT ns ns 0
theorem en(ns:List af):∀(xs:List af)(k:Int),goT ns xs k=true↔∀(i:Nat)(x:af),xs[i]? =some x->aR ns (k+(i:Int)+1) x=true
 | [],k=>by simp [goT]
 |x::xs,k=>by
  simp only [goT,zqs]
  rw [en ns xs (k+1)]
  constructor
  ·rintro⟨h1,h2⟩ i y hy
   cases i with
   |zero=>simp at hy;subst hy;simpa using h1
   |succ i=>have:=h2 i y (by simpa using hy);rw [show k+((i+1:Nat):Int)+1=k+1+(i:Int)+1 by omega];exact this
  ·intro h
   refine⟨by simpa using h 0 x rfl,fun i y hy=> ?_⟩
   have:=h (i+1) y (by simpa using hy)
   rw [show k+((i+1:Nat):Int)+1=k+1+(i:Int)+1 by omega]at this
   exact this
theorem vm{z:Int}{x:af}(h0:0<=z)(hx:ns[z.toNat]? =some x)(h:aR ns (z+1) x=false):aM ns=false:=by
 cases hg:goT ns ns 0
 ·simp [aM,hg]
 ·have:=(en ns ns 0).1 hg z.toNat x hx
  rw [show(0:Int)+((z.toNat:Nat):Int)+1=z+1 by omega,h]at this
  cases this
theorem sE(hM:M=(ns.length:Int))(h12:M<=12)(hz:M<=z)(h:∀(i:Nat)(x:af),i<z.toNat->ns[i]? =some x->aR ns ((i:Int)+1) x=true):aM ns=true:=by
 have hg:goT ns ns 0=true:=(en ns ns 0).2 fun i x hx=>by
  have hi:=(List.getElem?_eq_some_iff.1 hx).1
  have:=h i x (by omega) hx
  rwa [show(0:Int)+(i:Int)+1=(i:Int)+1 by omega]
 simp only [aM,hg,Bool.and_true,zqp]
 omega
theorem sF{M:Int}(hM:M=(ns.length:Int))(h:¬M<=12):aM ns=false:=by
 simp only [aM,Bool.and_eq_false_iff,zqo]
 left;omega
theorem zt{x:af}(h0:n≠0)(hn:isN ns n=true)(hx:ns[(n-1).toNat]? =some x)(hd:rng (kC ns n) 1 4=true)(hu:x.up≠0):isN ns x.up=true:=by
 cases hi:isN ns x.up
 ·exfalso
  have hl:ns.length≠0:=fun h=>by
   have:=(aZ hn).2.1
   have:=(aZ hn).1
   omega
  obtain⟨L,hL⟩:∃L,ns.length=L+1:=⟨ns.length-1,by omega⟩
  rw [kC,hL,eV ns h0 hn,mg hx,nr ns _ _ _ hu hi]at hd
  simp [rng]at hd
 ·rfl
variable {xs:List Int}
theorem kY{i:Nat}{k:Int}(h:xs[i]? =some k)(hk:dz ns n k=false):xs.all (dz ns n)=false:=by
 rw [List.all_eq_false]
 exact⟨k,zqd h,by rw [hk];decide⟩
theorem rT(hM:M=(xs.length:Int))(hz:M<=z)(h:∀(i:Nat)(v:Int),i<z.toNat->xs[i]? =some v->dz ns n v=true):xs.all (dz ns n)=true:=by
 rw [zqf]
 exact qe hM hz h
theorem mU{n:Nat}{a z:Int}(h:a=(n:Int))(hz:z<=(n:Int)):z<=a:=h▸hz
theorem ze(hM:M=(ns.length:Int))(h0:0<=z)(h1:z<M):isN ns (z+1)=true:=by
 simp only [isN,rng,zqs,zqp];omega
theorem C2{z:Int}{x:af}(h:ns[z.toNat]? =some x):ns[(z+1-1).toNat]? =some x:=by rw [show z+1-1=z by omega];exact h
theorem mQ{α:Type}{c:α->Array Value}{xs:List α}{V:LLA}(hV:V=vw c xs):aD V=(xs.length:Int):=by rw [hV,az,ak]
end Go.Proofs.YtbnplcingdgaaaaGreat
