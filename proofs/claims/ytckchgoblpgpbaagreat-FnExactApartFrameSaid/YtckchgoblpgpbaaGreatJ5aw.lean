/- Tables, nodes of a tree, their depth. -/
import Derived.Test.YtckchgoblpgpbaaGreatJ5av
set_option linter.unusedVariables false
set_option linter.unusedSimpArgs false
set_option maxHeartbeats 8000000
namespace Go.Proofs.YtckchgoblpgpbaaGreat
open Go.ChangeShapes Go.WideShapes Go.ChangeAt Go.RowKit Am Go.Proofs.Tryz
set_option maxRecDepth 100000
def tG(r:aO):Bool:=rng r.room (-1) 1048576&&(rng r.wide 0 1048576&&rng r.high 0 1048576)
def DR(rs:List aO):Bool:=rng (rs.length:Int) 1 6&&rs.all tG
variable {xs:List aO}
theorem Fl{z M:Int}(hM:M=(xs.length:Int))(hz:M<=z)(h:∀(i:Nat)(v:aO),i<z.toNat->xs[i]? =some v->tG v=true):xs.all tG=true:=by
 rw [zqf]
 exact pB hM hz h
theorem Fm{i:Nat}{v:aO}(h:xs[i]? =some v)(hv:tG v=false):xs.all tG=false:=by
 rw [List.all_eq_false]
 exact⟨v,zqd h,by rw [hv];decide⟩
def isN(ns:List af)(n:Int):Bool:=rng n 1 (ns.length:Int)
def upN(ns:List af)(n:Int):Int:=match ns[(n-1).toNat]? with|some x=>x.up|none=>0
def s7(ns:List af):Nat->Int->Int->Int
 |0,k,n=>if n=0 then k else 0
 |f+1,k,n=>if n=0 then k else if isN ns n=true then s7 ns f (k+1) (upN ns n)else 0
def uP(ns:List af)(n:Int):Int:=s7 ns ns.length 0 n
theorem lQ(ns:List af)(f:Nat)(k:Int):s7 ns f k 0=k:=by cases f<;>simp [s7]
theorem uO(ns:List af)(f:Nat)(k n:Int)(h0:n≠0)(h:isN ns n=false):s7 ns f k n=0:=by cases f<;>simp [s7,h0,h]
theorem jV(ns:List af){f:Nat}{k n:Int}(h0:n≠0)(h:isN ns n=true):s7 ns (f+1) k n=s7 ns f (k+1) (upN ns n):=by simp [s7,h0,h]
theorem xj(ns:List af){k n:Int}(h0:n≠0):s7 ns 0 k n=0:=by simp [s7,h0]
variable {ns:List af}
theorem bq{n:Int}(h:isN ns n=true):1<=n/\n<=(ns.length:Int)/\∃x,ns[(n-1).toNat]? =some x:=by
 simp only [isN,rng,zqs,zqp]at h
 exact⟨h.1,h.2,ns[(n-1).toNat]'(by omega),zqc _⟩
theorem sB{n:Int}{x:af}(h:ns[(n-1).toNat]? =some x):upN ns n=x.up:=by unfold upN;rw [h]
theorem yy{M d:Int}{L:Nat}(hM:M=(L:Int))(h0:0<=d)(h1:d<M):L-d.toNat=(L-(d+1).toNat)+1:=by omega
theorem wi{M d:Int}{L:Nat}(hM:M=(L:Int))(h:d=M):L-d.toNat=0:=by omega
def cnt(xs:List Int)(n:Int):Int:=(xs.map fun k=>if k=n then 1 else 0).sum
theorem fC(V:LLA)(n:Int):PC0 36 [.agg [.view V],ai n] (.t (abl (rng n 1 (aX V)))):=by
 refine ae (aJ f36) ay func36 fun g F hg hF=> ?_
 cbv
 repeat'(first|(refine bz hg (bi _ _ _) rfl (fun R0 ha=> ?_);cases R0<;>cbv))
 all_goals exact bk hF (by rw [ha,bF hg])
theorem jM(V:LLA)(n:Int):PC0 41 [.agg [.view V],ai n] (.t (abl (rng n 1 (aX V)))):=by
 refine ae (aJ f41) ay func41 fun g F hg hF=> ?_
 cbv
 repeat'(first|(refine bz hg (bQ _ _ _) rfl (fun R0 ha=> ?_);cases R0<;>cbv))
 all_goals exact bk hF (by rw [ha,bF hg])
theorem de(V:LLA)(n:Int)(h1:1<=n)(h2:n<=1048576){a0:Int}{Va1:LLA}{a2:Int}{a3:Int}{a4:Int}{a5:Int}{a6:Int}{a7:Int}{a8:Bool}{a9:Bool}{a10:Int}{a11:Int}{a12:Int}{a13:Int}{a14:Int}{a15:Int}{a16:Int}{a17:Int}{a18:Int}{a19:Int}{a20:Int}{a21:Int}{a22:Int}{a23:Int}{a24:Int}{a25:Int}{a26:Int}{a27:Int}{a28:Int}{a29:Int}{a30:Int}{a31:Int}{a32:Int}{a33:Int}{a34:Int}{a35:Int}{a36:Int}{a37:Int}{a38:Int}{a39:Int}{a40:Int}{a41:Int}{a42:Int}{a43:Int}{a44:Int}{a45:Int}{a46:Int}{a47:Int}{a48:Int}{a49:Int}{a50:Int}{a51:Int}{a52:Int}{a53:Int}{a54:Int}{a55:Int}{a56:Int}{a57:Int}{a58:Int}{a59:Int}{a60:Int}{a61:Int}{a62:Bool}{Va63:LLA}(hy:V[(n-1).toNat]? =some [.J a0,.view Va1,.J a2,.J a3,.J a4,.J a5,.J a6,.J a7,.B a8,.B a9,.J a10,.J a11,.J a12,.J a13,.J a14,.J a15,.J a16,.J a17,.J a18,.J a19,.J a20,.J a21,.J a22,.J a23,.J a24,.J a25,.J a26,.J a27,.J a28,.J a29,.J a30,.J a31,.J a32,.J a33,.J a34,.J a35,.J a36,.J a37,.J a38,.J a39,.J a40,.J a41,.J a42,.J a43,.J a44,.J a45,.J a46,.J a47,.J a48,.J a49,.J a50,.J a51,.J a52,.J a53,.J a54,.J a55,.J a56,.J a57,.J a58,.J a59,.J a60,.J a61,.B a62,.view Va63]):PC0 38 [.agg [.view V],ai n] (.t (.agg [.J a0,.view Va1,.J a2,.J a3,.J a4,.J a5,.J a6,.J a7,.B a8,.B a9,.J a10,.J a11,.J a12,.J a13,.J a14,.J a15,.J a16,.J a17,.J a18,.J a19,.J a20,.J a21,.J a22,.J a23,.J a24,.J a25,.J a26,.J a27,.J a28,.J a29,.J a30,.J a31,.J a32,.J a33,.J a34,.J a35,.J a36,.J a37,.J a38,.J a39,.J a40,.J a41,.J a42,.J a43,.J a44,.J a45,.J a46,.J a47,.J a48,.J a49,.J a50,.J a51,.J a52,.J a53,.J a54,.J a55,.J a56,.J a57,.J a58,.J a59,.J a60,.J a61,.B a62,.view Va63])):=by
 obtain⟨m,hm⟩:=nmE (n-1)
 rw [<-hm]at hy
 refine ae (aJ f38) ay func38 fun g F hg hF=> ?_
 cbv
 have e1:g .w .sub .i64 n 1=m:=by rw [bZ hg,aw _ (by omega),hm]
 rw [e1]
 refine goX hg _ (by omega) hy rfl ?_
 cbv
 exact fg hF rfl ⟨rfl,rfl⟩
theorem fY(V:LLA)(n:Int)(h1:1<=n)(h2:n<=1048576){a0:Int}{Va1:LLA}{a2:Int}{a3:Int}{a4:Int}{a5:Int}{a6:Int}{a7:Int}{a8:Bool}{a9:Bool}{a10:Int}{a11:Int}{a12:Int}{a13:Int}{a14:Int}{a15:Int}{a16:Int}{a17:Int}{a18:Int}{a19:Int}{a20:Int}{a21:Int}{a22:Int}{a23:Int}{a24:Int}{a25:Int}{a26:Int}{a27:Int}{a28:Int}{a29:Int}{a30:Int}{a31:Int}{a32:Int}{a33:Int}{a34:Int}{a35:Int}{a36:Int}{a37:Int}{a38:Int}{a39:Int}{a40:Int}{a41:Int}{a42:Int}{a43:Int}{a44:Int}{a45:Int}{a46:Int}{a47:Int}{a48:Int}{a49:Int}{a50:Int}{a51:Int}{a52:Int}{a53:Int}{a54:Int}{a55:Int}{a56:Int}{a57:Int}{a58:Int}{a59:Int}{a60:Int}{a61:Int}{a62:Bool}{Va63:LLA}(hy:V[(n-1).toNat]? =some [.J a0,.view Va1,.J a2,.J a3,.J a4,.J a5,.J a6,.J a7,.B a8,.B a9,.J a10,.J a11,.J a12,.J a13,.J a14,.J a15,.J a16,.J a17,.J a18,.J a19,.J a20,.J a21,.J a22,.J a23,.J a24,.J a25,.J a26,.J a27,.J a28,.J a29,.J a30,.J a31,.J a32,.J a33,.J a34,.J a35,.J a36,.J a37,.J a38,.J a39,.J a40,.J a41,.J a42,.J a43,.J a44,.J a45,.J a46,.J a47,.J a48,.J a49,.J a50,.J a51,.J a52,.J a53,.J a54,.J a55,.J a56,.J a57,.J a58,.J a59,.J a60,.J a61,.B a62,.view Va63]):PC0 44 [.agg [.view V],ai n] (.t (.agg [.J a0,.view Va1,.J a2,.J a3,.J a4,.J a5,.J a6,.J a7,.B a8,.B a9,.J a10,.J a11,.J a12,.J a13,.J a14,.J a15,.J a16,.J a17,.J a18,.J a19,.J a20,.J a21,.J a22,.J a23,.J a24,.J a25,.J a26,.J a27,.J a28,.J a29,.J a30,.J a31,.J a32,.J a33,.J a34,.J a35,.J a36,.J a37,.J a38,.J a39,.J a40,.J a41,.J a42,.J a43,.J a44,.J a45,.J a46,.J a47,.J a48,.J a49,.J a50,.J a51,.J a52,.J a53,.J a54,.J a55,.J a56,.J a57,.J a58,.J a59,.J a60,.J a61,.B a62,.view Va63])):=by
 obtain⟨m,hm⟩:=nmE (n-1)
 rw [<-hm]at hy
 refine ae (aJ f44) ay func44 fun g F hg hF=> ?_
 cbv
 have e1:g .w .sub .i64 n 1=m:=by rw [bZ hg,aw _ (by omega),hm]
 rw [e1]
 refine goX hg _ (by omega) hy rfl ?_
 cbv
 exact fg hF rfl ⟨rfl,rfl⟩
theorem rD(rs:List aO)(hl:rs.length<=1048576):PC0 63 [.agg [.view (vw aO.c rs)]] (.t (abl (DR rs))):=by
 obtain⟨V,hV⟩:=nmE (vw aO.c rs)
 have hn:=lmV hV
 have iV:=imV hV
 have kV:=kmV (k:=3) hV fun _=>rfl
 have dV:=dmV hV
 have hd:aX V=(rs.length:Int):=by rw [az];omega
 have hf:0<=aX V:=by omega
 have hm:aX V<=1048576:=by omega
 have hj:DR rs=(rng (aX V) 1 6&&rs.all tG):=by rw [hd];rfl
 rw [<-hV,hj]
 refine ae (aJ f63) ay func63 fun g F hg hF=> ?_
 cbv
 refine bM hg ay (by kernel_rfl) (fun z:Int=>[(1,.p 0),(3,.i z)]) (fun _=>[.bx 67 1 [.view V]]) (fun z=>0<=z/\z<=aX V/\∀(i:Nat)(v:aO),i<z.toNat->rs[i]? =some v->tG v=true) (fun z=>(aX V).toNat-z.toNat)
  0 [some 0] ⟨Int.le_refl 0,hf,fun i v hi=>by simp at hi⟩ (wkS [0] (by decide) ⟨⟨_,rfl,rfl,rfl⟩,trivial⟩ zr2) (fun z B hs hB=> ?_)
 obtain⟨h0,h1,h2⟩:=hs
 cbv
 cases hc:g .q .lss z (g .ln V)
 ·rw [bh hg,bF hg,zqo]at hc
  have he:=Fl hd (by omega) h2
  cbv
  repeat'(first|(refine bz hg (bi _ _ _) rfl (fun R0 hb=> ?_);cases R0<;>cbv))
  all_goals exact bk hF (by rw [hb,bF hg,he,Bool.and_true])
 ·rw [bh hg,bF hg,zqp]at hc
  cbv
  obtain⟨x,hx⟩:=oL (xs:=rs) h0 (fz hd hc)
  have hk:V[z.toNat]? =some (lc (aO.c x)):=by rw [hV];exact bf hx
  obtain⟨x0,x1,x2⟩:=x
  refine goX hg _ h0 hk rfl ?_
  cbv
  have ha:tG ⟨x0,x1,x2⟩=false->(rng (aX V) 1 6&&rs.all tG)=false:=fun h=>by rw [Fm hx h,Bool.and_false]
  have e1:g .w .add .i64 z 1=z+1:=by rw [aN hg,aw _ (by omega)]
  repeat'(first|(refine bz hg (bi _ _ _) rfl (fun R0 hb=> ?_);cases R0<;>cbv))
  all_goals first
   |exact bk hF (ha (by simp only [tG];clear hF;simp_all)).symm
   |skip
  have hh:tG ⟨x0,x1,x2⟩=true:=by simp only [tG];clear hF hB;simp_all
  rw [e1]
  refine gg hB (z+1) [some 0] (wkS [0] (by decide) ⟨⟨_,rfl,rfl,rfl⟩,trivial⟩ zr2) ⟨by omega,by omega,fun i v hi hv=> ?_⟩ (by omega)
  by_cases hi2:i<z.toNat
  ·exact h2 i v hi2 hv
  ·rw [show i=z.toNat by omega,hx]at hv
   cases hv
   exact hh
theorem sa(rs:List aO)(hl:rs.length<=1048576):PC0 70 [.agg [.view (vw aO.c rs)]] (.t (abl (DR rs))):=by
 obtain⟨V,hV⟩:=nmE (vw aO.c rs)
 have hn:=lmV hV
 have iV:=imV hV
 have kV:=kmV (k:=3) hV fun _=>rfl
 have dV:=dmV hV
 have hb:aX V=(rs.length:Int):=by rw [az];omega
 have hf:0<=aX V:=by omega
 have hm:aX V<=1048576:=by omega
 have hj:DR rs=(rng (aX V) 1 6&&rs.all tG):=by rw [hb];rfl
 rw [<-hV,hj]
 refine ae (aJ f70) ay func70 fun g F hg hF=> ?_
 cbv
 have cr:=bQ (g .ln V) 1 6
 rw [bF hg]at cr
 obtain⟨Q,hQ⟩:=nmE (rng (aX V) 1 6)
 rw [<-hQ]at cr hF
 rw [bF hg]
 (first|refine ad hg cr ?_|refine aa hg cr ?_)
 cases Q
 case false=>
  cbv
  exact bk hF rfl
 cbv
 refine bM hg ay (by kernel_rfl) (fun z:Int=>[(1,.p 0),(11,.v V),(12,.i (g .ln V)),(13,.i z)]) (fun _=>[.bx 67 1 [.view V]]) (fun z=>0<=z/\z<=aX V/\∀(i:Nat)(v:aO),i<z.toNat->rs[i]? =some v->tG v=true) (fun z=>(aX V).toNat-z.toNat)
  0 [some 0] ⟨Int.le_refl 0,hf,fun i v hi=>by simp at hi⟩ (wkS [0] (by decide) ⟨⟨_,rfl,rfl,rfl⟩,trivial⟩ zr4) (fun z B hs hB=> ?_)
 obtain⟨h0,h1,h2⟩:=hs
 cbv
 cases hc:g .q .lss z (g .ln V)
 ·rw [bh hg,bF hg,zqo]at hc
  have hd:=Fl hb (by omega) h2
  cbv
  exact bk hF (by rw [hd];rfl)
 ·rw [bh hg,bF hg,zqp]at hc
  cbv
  obtain⟨x,hx⟩:=oL (xs:=rs) h0 (fz hb hc)
  have hk:V[z.toNat]? =some (lc (aO.c x)):=by rw [hV];exact bf hx
  obtain⟨x0,x1,x2⟩:=x
  refine goX hg _ h0 hk rfl ?_
  cbv
  have ha:tG ⟨x0,x1,x2⟩=false->(true&&rs.all tG)=false:=fun h=>by rw [Fm hx h,Bool.and_false]
  have e1:g .w .add .i64 z 1=z+1:=by rw [aN hg,aw _ (by omega)]
  repeat'(first|(refine bz hg (bQ _ _ _) rfl (fun R0 he=> ?_);cases R0<;>cbv))
  all_goals first
   |exact bk hF (ha (by simp only [tG];clear hF;simp_all)).symm
   |skip
  have hh:tG ⟨x0,x1,x2⟩=true:=by simp only [tG];clear hF hB;simp_all
  rw [e1]
  refine gg hB (z+1) [some 0] (wkS [0] (by decide) ⟨⟨_,rfl,rfl,rfl⟩,trivial⟩ zr4) ⟨by omega,by omega,fun i v hi hv=> ?_⟩ (by omega)
  by_cases hi2:i<z.toNat
  ·exact h2 i v hi2 hv
  ·rw [show i=z.toNat by omega,hx]at hv
   cases hv
   exact hh
theorem jz(xs:List Int)(n:Int)(hl:xs.length<=1048576):PC0 48 [.c (.view (vw ak xs)),ai n] (.i (cnt xs n)):=by
 obtain⟨V,hV⟩:=nmE (vw ak xs)
 have hj:=lmV hV
 have iV:=imV hV
 have kV:=kmV (k:=1) hV fun _=>rfl
 have dV:=dmV hV
 have hf:aX V=(xs.length:Int):=by rw [az];omega
 have hd:0<=aX V:=by omega
 have hi:aX V<=1048576:=by omega
 have ha:∀z:Int,aX V<=z->wQ (fun k=>if k=n then 1 else 0) xs z.toNat=cnt xs n:=fun z hz=>lD _ (by omega)
 rw [<-hV]
 refine ae (aJ f48) ay func48 fun g F hg hF=> ?_
 cbv
 refine bM hg ay (by kernel_rfl) (fun s:Int×Int=>[(0,.v V),(1,.i n),(5,.i s.2),(6,.i s.1)]) (fun _=>[]) (fun s=>0<=s.1/\s.1<=aX V/\0<=s.2/\s.2<=s.1/\s.2=wQ (fun k=>if k=n then 1 else 0) xs s.1.toNat) (fun s=>(aX V).toNat-s.1.toNat)
  (0,0) [] ⟨Int.le_refl 0,hd,Int.le_refl 0,Int.le_refl 0,(jj _ _).symm⟩ (wk0 zr4) (fun s B hs hB=> ?_)
 obtain⟨z,d⟩:=s
 obtain⟨h0,h1,h2,h3,h4⟩:=hs
 simp only at h0 h1 h2 h3 h4
 cbv
 cases hc:g .q .lss z (g .ln V)
 ·rw [bh hg,bF hg,zqo]at hc
  cbv
  exact aV hF (by rw [h4,ha z (by omega)])
 ·rw [bh hg,bF hg,zqp]at hc
  cbv
  obtain⟨x,hx⟩:=oL (xs:=xs) h0 (fz hf hc)
  have hh:V[z.toNat]? =some (lc (ak x)):=by rw [hV];exact bf hx
  have hs:=jk (fun k:Int=>if k=n then(1:Int)else 0) hx
  refine goX hg _ h0 hh rfl ?_
  cbv
  have e1:g .w .add .i64 z 1=z+1:=by rw [aN hg,aw _ (by omega)]
  cases he:g .q .eql x n
  ·have hb:x≠n:=by rw [bj hg]at he;simpa using he
   simp only [if_neg hb]at hs
   cbv
   rw [e1]
   exact gg hB (z+1,d) [] (wk0 zr4) ⟨by simp only;omega,by simp only;omega,h2,by simp only;omega,by simp only;rw [show(z+1).toNat=z.toNat+1 by omega,hs];omega⟩ (by show(aX V).toNat-(z+1).toNat<(aX V).toNat-z.toNat;omega)
  ·have hb:x=n:=by rw [bj hg]at he;simpa using he
   simp only [if_pos hb]at hs
   cbv
   have e2:g .w .add .i64 d 1=d+1:=by rw [aN hg,aw _ (by omega)]
   rw [e1,e2]
   exact gg hB (z+1,d+1) [] (wk0 zr4) ⟨by simp only;omega,by simp only;omega,by simp only;omega,by simp only;omega,by simp only;rw [show(z+1).toNat=z.toNat+1 by omega,hs];omega⟩ (by show(aX V).toNat-(z+1).toNat<(aX V).toNat-z.toNat;omega)
theorem sn(ns:List af)(n0:Int)(hl:ns.length<=1048576):PC0 69 [.agg [.view (vwA af.ac ns)],ai n0] (.i (uP ns n0)):=by
 obtain⟨V,hV⟩:=nmE (vwA af.ac ns)
 have hc:aX V=(ns.length:Int):=by rw [az,hV,bC]
 have xr:0<=aX V:=by omega
 have xs:aX V<=1048576:=by omega
 have hh:∀n,isN ns n=rng n 1 (aX V):=fun n=>by rw [hc];rfl
 have xv:∀d:Int,0<=d->d<aX V->ns.length-d.toNat=(ns.length-(d+1).toNat)+1:=fun d h0 h1=>yy hc h0 h1
 have xu:∀d:Int,d=aX V->ns.length-d.toNat=0:=fun d h=>wi hc h
 have hm:s7 ns (ns.length-(0:Int).toNat) 0 n0=uP ns n0:=rfl
 obtain⟨R,hR⟩:=nmE (uP ns n0)
 rw [<-hR]at hm⊢
 rw [<-hV]
 refine ae (aJ f69) ay func69 fun g F hg hF=> ?_
 cbv
 refine bM hg ay (by kernel_rfl) (fun s:Int×Int=>[(1,.i s.1),(2,.p 0),(5,.i s.2)]) (fun _=>[.bx 28 1 [.view V]]) (fun s=>0<=s.2/\s.2<=aX V/\s7 ns (ns.length-s.2.toNat) s.2 s.1=R) (fun s=>(aX V).toNat-s.2.toNat)
  (n0,0) [some 0] ⟨Int.le_refl 0,xr,hm⟩ (wkS [0] (by decide) ⟨⟨_,rfl,rfl,rfl⟩,trivial⟩ zr3) (fun s B hs hB=> ?_)
 obtain⟨n,d⟩:=s
 obtain⟨h0,h1,h2⟩:=hs
 simp only at h0 h1 h2
 cbv
 cases hn:g .q .neq n 0
 ·have hb:n=0:=by rw [bn hg]at hn;simpa using hn
  cbv
  exact aV hF (by rw [<-h2,hb,lQ])
 have hb:n≠0:=by rw [bn hg]at hn;simpa using hn
 cbv
 have e1:g .w .add .i64 d 1=d+1:=by rw [aN hg,aw _ (by omega)]
 obtain⟨D,hD⟩:=nmE (d+1)
 rw [<-hD]at e1
 rw [e1]
 have ci:=jM V n
 rw [<-hh n]at ci
 cases hi:isN ns n
 ·rw [hi]at ci
  refine ad hg ci ?_
  cbv
  exact aV hF (by rw [<-h2,uO ns _ _ _ hb hi])
 rw [hi]at ci
 refine ad hg ci ?_
 cbv
 cases hd:g .q .gtr D (g .ln V)
 case true=>
  rw [cu hg,bF hg,zqp]at hd
  cbv
  exact aV hF (by rw [<-h2,xu d (by omega),xj ns hb])
 rw [cu hg,bF hg,zqo]at hd
 have xx:d<aX V:=by omega
 have xt:=xv d h0 xx
 obtain⟨i1,i2,x,hx⟩:=bq hi
 have xw:n<=1048576:=Int.le_trans (hc▸i2) xs
 have he:V[(n-1).toNat]? =some x.ac:=by rw [hV];exact gR hx
 have xy:=sB hx
 have hj:s7 ns (ns.length-D.toNat) D x.up=R:=by rw [<-h2,xt,jV ns hb hi,xy,hD]
 obtain⟨a0,a1,⟨a2,a3,a4,a5,a6,a7,a8,a9,hp,hq,hr,⟨ht,hu⟩,⟨hv,hw⟩,⟨hy,hz⟩,⟨hA,hC⟩,⟨hE,hG⟩,⟨hH,hI⟩,⟨hJ,hK⟩,hL,⟨⟨hM,hN⟩,⟨hO,hP⟩,⟨hQ,hS⟩,⟨hT,hU⟩,⟨hW,hX⟩,⟨hY,hZ⟩⟩,⟨⟨h3,h4⟩,⟨h5,h6⟩,⟨h7,h8⟩,⟨h9,xa⟩,⟨xb,xc⟩,⟨xd,xe⟩⟩,⟨xf,xg,xh,xi⟩,⟨xk,xl,xm,xn⟩,xo,xp⟩,xq,⟨hk⟩⟩:=x
 replace he:V[(n-1).toNat]? =some [.J a0,.view (vw ak a1),.J a2,.J a3,.J a4,.J a5,.J a6,.J a7,.B a8,.B a9,.J hp,.J hq,.J hr,.J ht,.J hu,.J hv,.J hw,.J hy,.J hz,.J hA,.J hC,.J hE,.J hG,.J hH,.J hI,.J hJ,.J hK,.J hL,.J hM,.J hN,.J hO,.J hP,.J hQ,.J hS,.J hT,.J hU,.J hW,.J hX,.J hY,.J hZ,.J h3,.J h4,.J h5,.J h6,.J h7,.J h8,.J h9,.J xa,.J xb,.J xc,.J xd,.J xe,.J xf,.J xg,.J xh,.J xi,.J xk,.J xl,.J xm,.J xn,.J xo,.J xp,.B xq,.view (vw aO.c hk)]:=he
 obtain⟨xz,hf⟩:=nmE (vw ak a1)
 obtain⟨ho,ha⟩:=nmE (vw aO.c hk)
 rw [<-hf,<-ha]at he
 cbv
 refine ad hg (fY V n i1 xw he) ?_
 cbv
 exact gg hB (a0,D) [some 0] (wkS [0] (by decide) ⟨⟨_,rfl,rfl,rfl⟩,trivial⟩ zr3) ⟨by simp only;omega,by simp only;omega,hj⟩ (by show(aX V).toNat-D.toNat<(aX V).toNat-d.toNat;omega)
theorem rJ(ns:List af)(n0:Int)(hl:ns.length<=1048576):PC0 62 [.agg [.view (vwA af.ac ns)],ai n0] (.i (uP ns n0)):=by
 obtain⟨V,hV⟩:=nmE (vwA af.ac ns)
 have hc:aX V=(ns.length:Int):=by rw [az,hV,bC]
 have xA:0<=aX V:=by omega
 have xt:aX V<=1048576:=by omega
 have hk:∀n,isN ns n=rng n 1 (aX V):=fun n=>by rw [hc];rfl
 have xv:∀d:Int,0<=d->d<aX V->ns.length-d.toNat=(ns.length-(d+1).toNat)+1:=fun d h0 h1=>yy hc h0 h1
 have xu:∀d:Int,d=aX V->ns.length-d.toNat=0:=fun d h=>wi hc h
 have hq:s7 ns (ns.length-(0:Int).toNat) 0 n0=uP ns n0:=rfl
 obtain⟨R,hR⟩:=nmE (uP ns n0)
 rw [<-hR]at hq⊢
 rw [<-hV]
 refine ae (aJ f62) ay func62 fun g F hg hF=> ?_
 cbv
 refine bM hg ay (by kernel_rfl) (fun s:Int×Int=>[(1,.i s.1),(2,.p 0),(5,.i s.2)]) (fun _=>[.bx 28 1 [.view V]]) (fun s=>0<=s.2/\s.2<=aX V+1/\(s.2<=aX V->s7 ns (ns.length-s.2.toNat) s.2 s.1=R)/\(s.2=aX V+1->R=0)) (fun s=>(aX V+1).toNat-s.2.toNat)
  (n0,0) [some 0] ⟨Int.le_refl 0,by simp only;omega,fun _=>hq,fun h=>by simp only at h;omega⟩ (wkS [0] (by decide) ⟨⟨_,rfl,rfl,rfl⟩,trivial⟩ zr3) (fun s B hs hB=> ?_)
 obtain⟨n,d⟩:=s
 obtain⟨h0,h1,h2,hh⟩:=hs
 simp only at h0 h1 h2 hh
 cbv
 cases hd:g .q .leq d (g .ln V)
 case false=>
  rw [iy hg,bF hg,zqo]at hd
  cbv
  exact aV hF (hh (by omega)).symm
 rw [iy hg,bF hg,zqp]at hd
 replace h2:=h2 hd
 clear hh
 cbv
 cases hn:g .q .eql n 0
 case true=>
  have hb:n=0:=by rw [bj hg]at hn;simpa using hn
  cbv
  exact aV hF (by rw [<-h2,hb,lQ])
 have hb:n≠0:=by rw [bj hg]at hn;simpa using hn
 cbv
 have e1:g .w .add .i64 d 1=d+1:=by rw [aN hg,aw _ (by omega)]
 have ci:=fC V n
 rw [<-hk n]at ci
 cases hi:isN ns n
 ·rw [hi]at ci
  refine ad hg ci ?_
  cbv
  exact aV hF (by rw [<-h2,uO ns _ _ _ hb hi])
 rw [hi]at ci
 refine ad hg ci ?_
 obtain⟨i1,i2,x,hx⟩:=bq hi
 have xw:n<=1048576:=Int.le_trans (hc▸i2) xt
 have hf:V[(n-1).toNat]? =some x.ac:=by rw [hV];exact gR hx
 have xy:=sB hx
 have hm:d<aX V->s7 ns (ns.length-(d+1).toNat) (d+1) x.up=R:=fun xx=>by rw [<-h2,xv d h0 xx,jV ns hb hi,xy]
 have ho:d=aX V->R=0:=fun he=>by rw [<-h2,xu d he,xj ns hb]
 obtain⟨a0,a1,⟨a2,a3,a4,a5,a6,a7,a8,a9,ht,hu,hv,⟨hw,hy⟩,⟨hz,hA⟩,⟨hC,hD⟩,⟨hE,hG⟩,⟨hH,hI⟩,⟨hJ,hK⟩,⟨hL,hM⟩,hN,⟨⟨hO,hP⟩,⟨hQ,hS⟩,⟨hT,hU⟩,⟨hW,hX⟩,⟨hY,hZ⟩,⟨h3,h4⟩⟩,⟨⟨h5,h6⟩,⟨h7,h8⟩,⟨h9,xa⟩,⟨xb,xc⟩,⟨xd,xe⟩,⟨xf,xg⟩⟩,⟨xh,xi,xk,xl⟩,⟨xm,xn,xo,xp⟩,xq,xr⟩,xs,⟨hp⟩⟩:=x
 replace hf:V[(n-1).toNat]? =some [.J a0,.view (vw ak a1),.J a2,.J a3,.J a4,.J a5,.J a6,.J a7,.B a8,.B a9,.J ht,.J hu,.J hv,.J hw,.J hy,.J hz,.J hA,.J hC,.J hD,.J hE,.J hG,.J hH,.J hI,.J hJ,.J hK,.J hL,.J hM,.J hN,.J hO,.J hP,.J hQ,.J hS,.J hT,.J hU,.J hW,.J hX,.J hY,.J hZ,.J h3,.J h4,.J h5,.J h6,.J h7,.J h8,.J h9,.J xa,.J xb,.J xc,.J xd,.J xe,.J xf,.J xg,.J xh,.J xi,.J xk,.J xl,.J xm,.J xn,.J xo,.J xp,.J xq,.J xr,.B xs,.view (vw aO.c hp)]:=hf
 obtain⟨xz,hj⟩:=nmE (vw ak a1)
 obtain⟨hr,ha⟩:=nmE (vw aO.c hp)
 rw [<-hj,<-ha]at hf
 cbv
 refine ad hg (de V n i1 xw hf) ?_
 cbv
 rw [e1]
 exact gg hB (a0,d+1) [some 0] (wkS [0] (by decide) ⟨⟨_,rfl,rfl,rfl⟩,trivial⟩ zr3) ⟨by simp only;omega,by simp only;omega,fun h=>hm (by simp only at h;omega),fun h=>ho (by simp only at h;omega)⟩ (by show(aX V+1).toNat-(d+1).toNat<(aX V+1).toNat-d.toNat;omega)
end Go.Proofs.YtckchgoblpgpbaaGreat
