/- Boxes that are placed apart: their margins, insets, spaces. -/
import Derived.Test.YtkicjdeddpihaaaGreatS3ax
set_option linter.unusedVariables false
set_option linter.unusedSimpArgs false
set_option maxHeartbeats 8000000
namespace Go.Proofs.YtkicjdeddpihaaaGreat
open Go.ChangeShapes Go.WideShapes Go.ChangeAt Go.RowKit Am Go.Proofs.Tryz
set_option maxRecDepth 100000
def vb(r:aI):Bool:=rng r.room (-1) 1048576&&(rng r.wide 0 1048576&&rng r.high 0 1048576)
def Gk(rs:List aI):Bool:=rng (rs.length:Int) 1 6&&rs.all vb
variable {xs:List aI}
theorem HN{z M:Int}(hM:M=(xs.length:Int))(hz:M<=z)(h:∀(i:Nat)(v:aI),i<z.toNat->xs[i]? =some v->vb v=true):xs.all vb=true:=by
 rw [zqf]
 exact qS hM hz h
theorem HQ{i:Nat}{v:aI}(h:xs[i]? =some v)(hv:vb v=false):xs.all vb=false:=by
 rw [List.all_eq_false]
 exact⟨v,zqd h,by rw [hv];decide⟩
def isN(ns:List af)(n:Int):Bool:=rng n 1 (ns.length:Int)
def upN(ns:List af)(n:Int):Int:=match ns[(n-1).toNat]? with|some x=>x.up|none=>0
def uF(ns:List af):Nat->Int->Int->Int
 |0,k,n=>if n=0 then k else 0
 |f+1,k,n=>if n=0 then k else if isN ns n=true then uF ns f (k+1) (upN ns n)else 0
def wo(ns:List af)(n:Int):Int:=uF ns ns.length 0 n
theorem mt(ns:List af)(f:Nat)(k:Int):uF ns f k 0=k:=by cases f<;>simp [uF]
theorem wn(ns:List af)(f:Nat)(k n:Int)(h0:n≠0)(h:isN ns n=false):uF ns f k n=0:=by cases f<;>simp [uF,h0,h]
theorem kl(ns:List af){f:Nat}{k n:Int}(h0:n≠0)(h:isN ns n=true):uF ns (f+1) k n=uF ns f (k+1) (upN ns n):=by simp [uF,h0,h]
theorem yK(ns:List af){k n:Int}(h0:n≠0):uF ns 0 k n=0:=by simp [uF,h0]
variable {ns:List af}
theorem bD{n:Int}(h:isN ns n=true):1<=n/\n<=(ns.length:Int)/\∃x,ns[(n-1).toNat]? =some x:=by
 simp only [isN,rng,zqs,zqp]at h
 exact⟨h.1,h.2,ns[(n-1).toNat]'(by omega),zqc _⟩
theorem ua{n:Int}{x:af}(h:ns[(n-1).toNat]? =some x):upN ns n=x.up:=by unfold upN;rw [h]
theorem Ag{M d:Int}{L:Nat}(hM:M=(L:Int))(h0:0<=d)(h1:d<M):L-d.toNat=(L-(d+1).toNat)+1:=by omega
theorem xH{M d:Int}{L:Nat}(hM:M=(L:Int))(h:d=M):L-d.toNat=0:=by omega
def cnt(xs:List Int)(n:Int):Int:=(xs.map fun k=>if k=n then 1 else 0).sum
theorem gV(V:LLA)(n:Int):PC0 55 [.agg [.view V],ai n] (.t (abl (rng n 1 (aM V)))):=by
 refine ae (aK f55) ay func55 fun g F hg hF=> ?_
 cbv
 repeat'(first|(refine bz hg (bi _ _ _) rfl (fun R0 ha=> ?_);cases R0<;>cbv))
 all_goals exact bk hF (by rw [ha,bA hg])
theorem jZ(V:LLA)(n:Int):PC0 73 [.agg [.view V],ai n] (.t (abl (rng n 1 (aM V)))):=by
 refine ae (aK f73) ay func73 fun g F hg hF=> ?_
 cbv
 repeat'(first|(refine bz hg (bT _ _ _) rfl (fun R0 ha=> ?_);cases R0<;>cbv))
 all_goals exact bk hF (by rw [ha,bA hg])
theorem dl(V:LLA)(n:Int)(h1:1<=n)(h2:n<=1048576){a0:Int}{Va1:LLA}{a2:Int}{a3:Int}{a4:Int}{a5:Int}{a6:Int}{a7:Int}{a8:Bool}{a9:Bool}{a10:Int}{a11:Int}{a12:Int}{a13:Int}{a14:Int}{a15:Int}{a16:Int}{a17:Int}{a18:Int}{a19:Int}{a20:Int}{a21:Int}{a22:Int}{a23:Int}{a24:Int}{a25:Int}{a26:Int}{a27:Int}{a28:Int}{a29:Int}{a30:Int}{a31:Int}{a32:Int}{a33:Int}{a34:Int}{a35:Int}{a36:Int}{a37:Int}{a38:Int}{a39:Int}{a40:Int}{a41:Int}{a42:Int}{a43:Int}{a44:Int}{a45:Int}{a46:Int}{a47:Int}{a48:Int}{a49:Int}{a50:Int}{a51:Int}{a52:Int}{a53:Int}{a54:Int}{a55:Int}{a56:Int}{a57:Int}{a58:Int}{a59:Int}{a60:Int}{a61:Int}{a62:Bool}{Va63:LLA}(hy:V[(n-1).toNat]? =some [.J a0,.view Va1,.J a2,.J a3,.J a4,.J a5,.J a6,.J a7,.B a8,.B a9,.J a10,.J a11,.J a12,.J a13,.J a14,.J a15,.J a16,.J a17,.J a18,.J a19,.J a20,.J a21,.J a22,.J a23,.J a24,.J a25,.J a26,.J a27,.J a28,.J a29,.J a30,.J a31,.J a32,.J a33,.J a34,.J a35,.J a36,.J a37,.J a38,.J a39,.J a40,.J a41,.J a42,.J a43,.J a44,.J a45,.J a46,.J a47,.J a48,.J a49,.J a50,.J a51,.J a52,.J a53,.J a54,.J a55,.J a56,.J a57,.J a58,.J a59,.J a60,.J a61,.B a62,.view Va63]):PC0 57 [.agg [.view V],ai n] (.t (.agg [.J a0,.view Va1,.J a2,.J a3,.J a4,.J a5,.J a6,.J a7,.B a8,.B a9,.J a10,.J a11,.J a12,.J a13,.J a14,.J a15,.J a16,.J a17,.J a18,.J a19,.J a20,.J a21,.J a22,.J a23,.J a24,.J a25,.J a26,.J a27,.J a28,.J a29,.J a30,.J a31,.J a32,.J a33,.J a34,.J a35,.J a36,.J a37,.J a38,.J a39,.J a40,.J a41,.J a42,.J a43,.J a44,.J a45,.J a46,.J a47,.J a48,.J a49,.J a50,.J a51,.J a52,.J a53,.J a54,.J a55,.J a56,.J a57,.J a58,.J a59,.J a60,.J a61,.B a62,.view Va63])):=by
 obtain⟨m,hm⟩:=nmE (n-1)
 rw [<-hm]at hy
 refine ae (aK f57) ay func57 fun g F hg hF=> ?_
 cbv
 have e1:g .w .sub .i64 n 1=m:=by rw [dq hg,aq _ (by omega),hm]
 rw [e1]
 refine goX hg _ (by omega) hy rfl ?_
 cbv
 exact fy hF rfl ⟨rfl,rfl⟩
theorem gl(V:LLA)(n:Int)(h1:1<=n)(h2:n<=1048576){a0:Int}{Va1:LLA}{a2:Int}{a3:Int}{a4:Int}{a5:Int}{a6:Int}{a7:Int}{a8:Bool}{a9:Bool}{a10:Int}{a11:Int}{a12:Int}{a13:Int}{a14:Int}{a15:Int}{a16:Int}{a17:Int}{a18:Int}{a19:Int}{a20:Int}{a21:Int}{a22:Int}{a23:Int}{a24:Int}{a25:Int}{a26:Int}{a27:Int}{a28:Int}{a29:Int}{a30:Int}{a31:Int}{a32:Int}{a33:Int}{a34:Int}{a35:Int}{a36:Int}{a37:Int}{a38:Int}{a39:Int}{a40:Int}{a41:Int}{a42:Int}{a43:Int}{a44:Int}{a45:Int}{a46:Int}{a47:Int}{a48:Int}{a49:Int}{a50:Int}{a51:Int}{a52:Int}{a53:Int}{a54:Int}{a55:Int}{a56:Int}{a57:Int}{a58:Int}{a59:Int}{a60:Int}{a61:Int}{a62:Bool}{Va63:LLA}(hy:V[(n-1).toNat]? =some [.J a0,.view Va1,.J a2,.J a3,.J a4,.J a5,.J a6,.J a7,.B a8,.B a9,.J a10,.J a11,.J a12,.J a13,.J a14,.J a15,.J a16,.J a17,.J a18,.J a19,.J a20,.J a21,.J a22,.J a23,.J a24,.J a25,.J a26,.J a27,.J a28,.J a29,.J a30,.J a31,.J a32,.J a33,.J a34,.J a35,.J a36,.J a37,.J a38,.J a39,.J a40,.J a41,.J a42,.J a43,.J a44,.J a45,.J a46,.J a47,.J a48,.J a49,.J a50,.J a51,.J a52,.J a53,.J a54,.J a55,.J a56,.J a57,.J a58,.J a59,.J a60,.J a61,.B a62,.view Va63]):PC0 75 [.agg [.view V],ai n] (.t (.agg [.J a0,.view Va1,.J a2,.J a3,.J a4,.J a5,.J a6,.J a7,.B a8,.B a9,.J a10,.J a11,.J a12,.J a13,.J a14,.J a15,.J a16,.J a17,.J a18,.J a19,.J a20,.J a21,.J a22,.J a23,.J a24,.J a25,.J a26,.J a27,.J a28,.J a29,.J a30,.J a31,.J a32,.J a33,.J a34,.J a35,.J a36,.J a37,.J a38,.J a39,.J a40,.J a41,.J a42,.J a43,.J a44,.J a45,.J a46,.J a47,.J a48,.J a49,.J a50,.J a51,.J a52,.J a53,.J a54,.J a55,.J a56,.J a57,.J a58,.J a59,.J a60,.J a61,.B a62,.view Va63])):=by
 obtain⟨m,hm⟩:=nmE (n-1)
 rw [<-hm]at hy
 refine ae (aK f75) ay func75 fun g F hg hF=> ?_
 cbv
 have e1:g .w .sub .i64 n 1=m:=by rw [dq hg,aq _ (by omega),hm]
 rw [e1]
 refine goX hg _ (by omega) hy rfl ?_
 cbv
 exact fy hF rfl ⟨rfl,rfl⟩
theorem sV(rs:List aI)(hl:rs.length<=1048576):PC0 123 [.agg [.view (vw aI.c rs)]] (.t (abl (Gk rs))):=by
 obtain⟨V,hV⟩:=nmE (vw aI.c rs)
 have hn:=lmV hV
 have iV:=imV hV
 have kV:=kmV (k:=3) hV fun _=>rfl
 have dV:=dmV hV
 have hd:aM V=(rs.length:Int):=by rw [aj];omega
 have hf:0<=aM V:=by omega
 have hm:aM V<=1048576:=by omega
 have hj:Gk rs=(rng (aM V) 1 6&&rs.all vb):=by rw [hd];rfl
 rw [<-hV,hj]
 refine ae (aK f123) ay func123 fun g F hg hF=> ?_
 cbv
 refine bO hg ay (by kernel_rfl) (fun z:Int=>[(1,.p 0),(3,.i z)]) (fun _=>[.bx 117 1 [.view V]]) (fun z=>0<=z/\z<=aM V/\∀(i:Nat)(v:aI),i<z.toNat->rs[i]? =some v->vb v=true) (fun z=>(aM V).toNat-z.toNat)
  0 [some 0] ⟨Int.le_refl 0,hf,fun i v hi=>by simp at hi⟩ (wkS [0] (by decide) ⟨⟨_,rfl,rfl,rfl⟩,trivial⟩ zr2) (fun z B hs hB=> ?_)
 obtain⟨h0,h1,h2⟩:=hs
 cbv
 cases hc:g .q .lss z (g .ln V)
 ·rw [bg hg,bA hg,zqo]at hc
  have he:=HN hd (by omega) h2
  cbv
  repeat'(first|(refine bz hg (bi _ _ _) rfl (fun R0 hb=> ?_);cases R0<;>cbv))
  all_goals exact bk hF (by rw [hb,bA hg,he,Bool.and_true])
 ·rw [bg hg,bA hg,zqp]at hc
  cbv
  obtain⟨x,hx⟩:=qc (xs:=rs) h0 (gg hd hc)
  have hk:V[z.toNat]? =some (lc (aI.c x)):=by rw [hV];exact ba hx
  obtain⟨x0,x1,x2⟩:=x
  refine goX hg _ h0 hk rfl ?_
  cbv
  have ha:vb ⟨x0,x1,x2⟩=false->(rng (aM V) 1 6&&rs.all vb)=false:=fun h=>by rw [HQ hx h,Bool.and_false]
  have e1:g .w .add .i64 z 1=z+1:=by rw [aJ hg,aq _ (by omega)]
  repeat'(first|(refine bz hg (bi _ _ _) rfl (fun R0 hb=> ?_);cases R0<;>cbv))
  all_goals first
   |exact bk hF (ha (by simp only [vb];clear hF;simp_all)).symm
   |skip
  have hh:vb ⟨x0,x1,x2⟩=true:=by simp only [vb];clear hF hB;simp_all
  rw [e1]
  refine ib hB (z+1) [some 0] (wkS [0] (by decide) ⟨⟨_,rfl,rfl,rfl⟩,trivial⟩ zr2) ⟨by omega,by omega,fun i v hi hv=> ?_⟩ (by omega)
  by_cases hi2:i<z.toNat
  ·exact h2 i v hi2 hv
  ·rw [show i=z.toNat by omega,hx]at hv
   cases hv
   exact hh
theorem tJ(rs:List aI)(hl:rs.length<=1048576):PC0 150 [.agg [.view (vw aI.c rs)]] (.t (abl (Gk rs))):=by
 obtain⟨V,hV⟩:=nmE (vw aI.c rs)
 have hn:=lmV hV
 have iV:=imV hV
 have kV:=kmV (k:=3) hV fun _=>rfl
 have dV:=dmV hV
 have hb:aM V=(rs.length:Int):=by rw [aj];omega
 have hf:0<=aM V:=by omega
 have hm:aM V<=1048576:=by omega
 have hj:Gk rs=(rng (aM V) 1 6&&rs.all vb):=by rw [hb];rfl
 rw [<-hV,hj]
 refine ae (aK f150) ay func150 fun g F hg hF=> ?_
 cbv
 have cr:=bT (g .ln V) 1 6
 rw [bA hg]at cr
 obtain⟨Q,hQ⟩:=nmE (rng (aM V) 1 6)
 rw [<-hQ]at cr hF
 rw [bA hg]
 (first|refine ad hg cr ?_|refine aa hg cr ?_)
 cases Q
 case false=>
  cbv
  exact bk hF rfl
 cbv
 refine bO hg ay (by kernel_rfl) (fun z:Int=>[(1,.p 0),(11,.v V),(12,.i (g .ln V)),(13,.i z)]) (fun _=>[.bx 117 1 [.view V]]) (fun z=>0<=z/\z<=aM V/\∀(i:Nat)(v:aI),i<z.toNat->rs[i]? =some v->vb v=true) (fun z=>(aM V).toNat-z.toNat)
  0 [some 0] ⟨Int.le_refl 0,hf,fun i v hi=>by simp at hi⟩ (wkS [0] (by decide) ⟨⟨_,rfl,rfl,rfl⟩,trivial⟩ zr4) (fun z B hs hB=> ?_)
 obtain⟨h0,h1,h2⟩:=hs
 cbv
 cases hc:g .q .lss z (g .ln V)
 ·rw [bg hg,bA hg,zqo]at hc
  have hd:=HN hb (by omega) h2
  cbv
  exact bk hF (by rw [hd];rfl)
 ·rw [bg hg,bA hg,zqp]at hc
  cbv
  obtain⟨x,hx⟩:=qc (xs:=rs) h0 (gg hb hc)
  have hk:V[z.toNat]? =some (lc (aI.c x)):=by rw [hV];exact ba hx
  obtain⟨x0,x1,x2⟩:=x
  refine goX hg _ h0 hk rfl ?_
  cbv
  have ha:vb ⟨x0,x1,x2⟩=false->(true&&rs.all vb)=false:=fun h=>by rw [HQ hx h,Bool.and_false]
  have e1:g .w .add .i64 z 1=z+1:=by rw [aJ hg,aq _ (by omega)]
  repeat'(first|(refine bz hg (bT _ _ _) rfl (fun R0 he=> ?_);cases R0<;>cbv))
  all_goals first
   |exact bk hF (ha (by simp only [vb];clear hF;simp_all)).symm
   |skip
  have hh:vb ⟨x0,x1,x2⟩=true:=by simp only [vb];clear hF hB;simp_all
  rw [e1]
  refine ib hB (z+1) [some 0] (wkS [0] (by decide) ⟨⟨_,rfl,rfl,rfl⟩,trivial⟩ zr4) ⟨by omega,by omega,fun i v hi hv=> ?_⟩ (by omega)
  by_cases hi2:i<z.toNat
  ·exact h2 i v hi2 hv
  ·rw [show i=z.toNat by omega,hx]at hv
   cases hv
   exact hh
theorem ny(xs:List Int)(n:Int)(hl:xs.length<=1048576):PC0 122 [.c (.view (vw ah xs)),ai n] (.i (cnt xs n)):=by
 obtain⟨V,hV⟩:=nmE (vw ah xs)
 have hj:=lmV hV
 have iV:=imV hV
 have kV:=kmV (k:=1) hV fun _=>rfl
 have dV:=dmV hV
 have hf:aM V=(xs.length:Int):=by rw [aj];omega
 have hd:0<=aM V:=by omega
 have hi:aM V<=1048576:=by omega
 have ha:∀z:Int,aM V<=z->yk (fun k=>if k=n then 1 else 0) xs z.toNat=cnt xs n:=fun z hz=>mf _ (by omega)
 rw [<-hV]
 refine ae (aK f122) ay func122 fun g F hg hF=> ?_
 cbv
 refine bO hg ay (by kernel_rfl) (fun s:Int×Int=>[(0,.v V),(1,.i n),(5,.i s.2),(6,.i s.1)]) (fun _=>[]) (fun s=>0<=s.1/\s.1<=aM V/\0<=s.2/\s.2<=s.1/\s.2=yk (fun k=>if k=n then 1 else 0) xs s.1.toNat) (fun s=>(aM V).toNat-s.1.toNat)
  (0,0) [] ⟨Int.le_refl 0,hd,Int.le_refl 0,Int.le_refl 0,(jE _ _).symm⟩ (wk0 zr4) (fun s B hs hB=> ?_)
 obtain⟨z,d⟩:=s
 obtain⟨h0,h1,h2,h3,h4⟩:=hs
 simp only at h0 h1 h2 h3 h4
 cbv
 cases hc:g .q .lss z (g .ln V)
 ·rw [bg hg,bA hg,zqo]at hc
  cbv
  exact aU hF (by rw [h4,ha z (by omega)])
 ·rw [bg hg,bA hg,zqp]at hc
  cbv
  obtain⟨x,hx⟩:=qc (xs:=xs) h0 (gg hf hc)
  have hh:V[z.toNat]? =some (lc (ah x)):=by rw [hV];exact ba hx
  have hs:=jF (fun k:Int=>if k=n then(1:Int)else 0) hx
  refine goX hg _ h0 hh rfl ?_
  cbv
  have e1:g .w .add .i64 z 1=z+1:=by rw [aJ hg,aq _ (by omega)]
  cases he:g .q .eql x n
  ·have hb:x≠n:=by rw [bm hg]at he;simpa using he
   simp only [if_neg hb]at hs
   cbv
   rw [e1]
   exact ib hB (z+1,d) [] (wk0 zr4) ⟨by simp only;omega,by simp only;omega,h2,by simp only;omega,by simp only;rw [show(z+1).toNat=z.toNat+1 by omega,hs];omega⟩ (by show(aM V).toNat-(z+1).toNat<(aM V).toNat-z.toNat;omega)
  ·have hb:x=n:=by rw [bm hg]at he;simpa using he
   simp only [if_pos hb]at hs
   cbv
   have e2:g .w .add .i64 d 1=d+1:=by rw [aJ hg,aq _ (by omega)]
   rw [e1,e2]
   exact ib hB (z+1,d+1) [] (wk0 zr4) ⟨by simp only;omega,by simp only;omega,by simp only;omega,by simp only;omega,by simp only;rw [show(z+1).toNat=z.toNat+1 by omega,hs];omega⟩ (by show(aM V).toNat-(z+1).toNat<(aM V).toNat-z.toNat;omega)
theorem tQ(ns:List af)(n0:Int)(hl:ns.length<=1048576):PC0 149 [.agg [.view (vwA af.ac ns)],ai n0] (.i (wo ns n0)):=by
 obtain⟨V,hV⟩:=nmE (vwA af.ac ns)
 have hc:aM V=(ns.length:Int):=by rw [aj,hV,bB]
 have xq:0<=aM V:=by omega
 have xr:aM V<=1048576:=by omega
 have hh:∀n,isN ns n=rng n 1 (aM V):=fun n=>by rw [hc];rfl
 have xu:∀d:Int,0<=d->d<aM V->ns.length-d.toNat=(ns.length-(d+1).toNat)+1:=fun d h0 h1=>Ag hc h0 h1
 have xt:∀d:Int,d=aM V->ns.length-d.toNat=0:=fun d h=>xH hc h
 have hm:uF ns (ns.length-(0:Int).toNat) 0 n0=wo ns n0:=rfl
 obtain⟨R,hR⟩:=nmE (wo ns n0)
 rw [<-hR]at hm⊢
 rw [<-hV]
 refine ae (aK f149) ay func149 fun g F hg hF=> ?_
 cbv
 refine bO hg ay (by kernel_rfl) (fun s:Int×Int=>[(1,.i s.1),(2,.p 0),(5,.i s.2)]) (fun _=>[.bx 32 1 [.view V]]) (fun s=>0<=s.2/\s.2<=aM V/\uF ns (ns.length-s.2.toNat) s.2 s.1=R) (fun s=>(aM V).toNat-s.2.toNat)
  (n0,0) [some 0] ⟨Int.le_refl 0,xq,hm⟩ (wkS [0] (by decide) ⟨⟨_,rfl,rfl,rfl⟩,trivial⟩ zr3) (fun s B hs hB=> ?_)
 obtain⟨n,d⟩:=s
 obtain⟨h0,h1,h2⟩:=hs
 simp only at h0 h1 h2
 cbv
 cases hn:g .q .neq n 0
 ·have hb:n=0:=by rw [bj hg]at hn;simpa using hn
  cbv
  exact aU hF (by rw [<-h2,hb,mt])
 have hb:n≠0:=by rw [bj hg]at hn;simpa using hn
 cbv
 have e1:g .w .add .i64 d 1=d+1:=by rw [aJ hg,aq _ (by omega)]
 obtain⟨D,hD⟩:=nmE (d+1)
 rw [<-hD]at e1
 rw [e1]
 have ci:=jZ V n
 rw [<-hh n]at ci
 cases hi:isN ns n
 ·rw [hi]at ci
  refine ad hg ci ?_
  cbv
  exact aU hF (by rw [<-h2,wn ns _ _ _ hb hi])
 rw [hi]at ci
 refine ad hg ci ?_
 cbv
 cases hd:g .q .gtr D (g .ln V)
 case true=>
  rw [da hg,bA hg,zqp]at hd
  cbv
  exact aU hF (by rw [<-h2,xt d (by omega),yK ns hb])
 rw [da hg,bA hg,zqo]at hd
 have xw:d<aM V:=by omega
 have xs:=xu d h0 xw
 obtain⟨i1,i2,x,hx⟩:=bD hi
 have xv:n<=1048576:=Int.le_trans (hc▸i2) xr
 have he:V[(n-1).toNat]? =some x.ac:=by rw [hV];exact gU hx
 have xx:=ua hx
 have hj:uF ns (ns.length-D.toNat) D x.up=R:=by rw [<-h2,xs,kl ns hb hi,xx,hD]
 obtain⟨a0,a1,⟨a2,a3,a4,a5,a6,a7,a8,a9,hp,hq,hr,⟨ht,hu⟩,⟨hv,hw⟩,⟨hy,hz⟩,⟨hA,hC⟩,⟨hE,hG⟩,⟨hH,hI⟩,⟨hJ,hK⟩,hL,⟨⟨hM,hN⟩,⟨hO,hP⟩,⟨hQ,hS⟩,⟨hT,hU⟩,⟨hW,hX⟩,⟨hY,hZ⟩⟩,⟨⟨h3,h4⟩,⟨h5,h6⟩,⟨h7,h8⟩,⟨h9,xa⟩,⟨xb,xc⟩,⟨xd,xe⟩⟩,⟨xf,xg,xh,xi⟩,⟨xj,xk,xl,xm⟩,xn,xo⟩,xp,⟨hk⟩⟩:=x
 replace he:V[(n-1).toNat]? =some [.J a0,.view (vw ah a1),.J a2,.J a3,.J a4,.J a5,.J a6,.J a7,.B a8,.B a9,.J hp,.J hq,.J hr,.J ht,.J hu,.J hv,.J hw,.J hy,.J hz,.J hA,.J hC,.J hE,.J hG,.J hH,.J hI,.J hJ,.J hK,.J hL,.J hM,.J hN,.J hO,.J hP,.J hQ,.J hS,.J hT,.J hU,.J hW,.J hX,.J hY,.J hZ,.J h3,.J h4,.J h5,.J h6,.J h7,.J h8,.J h9,.J xa,.J xb,.J xc,.J xd,.J xe,.J xf,.J xg,.J xh,.J xi,.J xj,.J xk,.J xl,.J xm,.J xn,.J xo,.B xp,.view (vw aI.c hk)]:=he
 obtain⟨xy,hf⟩:=nmE (vw ah a1)
 obtain⟨ho,ha⟩:=nmE (vw aI.c hk)
 rw [<-hf,<-ha]at he
 cbv
 refine ad hg (gl V n i1 xv he) ?_
 cbv
 exact ib hB (a0,D) [some 0] (wkS [0] (by decide) ⟨⟨_,rfl,rfl,rfl⟩,trivial⟩ zr3) ⟨by simp only;omega,by simp only;omega,hj⟩ (by show(aM V).toNat-D.toNat<(aM V).toNat-d.toNat;omega)
theorem s5(ns:List af)(n0:Int)(hl:ns.length<=1048576):PC0 121 [.agg [.view (vwA af.ac ns)],ai n0] (.i (wo ns n0)):=by
 obtain⟨V,hV⟩:=nmE (vwA af.ac ns)
 have hc:aM V=(ns.length:Int):=by rw [aj,hV,bB]
 have xz:0<=aM V:=by omega
 have xs:aM V<=1048576:=by omega
 have hk:∀n,isN ns n=rng n 1 (aM V):=fun n=>by rw [hc];rfl
 have xu:∀d:Int,0<=d->d<aM V->ns.length-d.toNat=(ns.length-(d+1).toNat)+1:=fun d h0 h1=>Ag hc h0 h1
 have xt:∀d:Int,d=aM V->ns.length-d.toNat=0:=fun d h=>xH hc h
 have hq:uF ns (ns.length-(0:Int).toNat) 0 n0=wo ns n0:=rfl
 obtain⟨R,hR⟩:=nmE (wo ns n0)
 rw [<-hR]at hq⊢
 rw [<-hV]
 refine ae (aK f121) ay func121 fun g F hg hF=> ?_
 cbv
 refine bO hg ay (by kernel_rfl) (fun s:Int×Int=>[(1,.i s.1),(2,.p 0),(5,.i s.2)]) (fun _=>[.bx 32 1 [.view V]]) (fun s=>0<=s.2/\s.2<=aM V+1/\(s.2<=aM V->uF ns (ns.length-s.2.toNat) s.2 s.1=R)/\(s.2=aM V+1->R=0)) (fun s=>(aM V+1).toNat-s.2.toNat)
  (n0,0) [some 0] ⟨Int.le_refl 0,by simp only;omega,fun _=>hq,fun h=>by simp only at h;omega⟩ (wkS [0] (by decide) ⟨⟨_,rfl,rfl,rfl⟩,trivial⟩ zr3) (fun s B hs hB=> ?_)
 obtain⟨n,d⟩:=s
 obtain⟨h0,h1,h2,hh⟩:=hs
 simp only at h0 h1 h2 hh
 cbv
 cases hd:g .q .leq d (g .ln V)
 case false=>
  rw [i8 hg,bA hg,zqo]at hd
  cbv
  exact aU hF (hh (by omega)).symm
 rw [i8 hg,bA hg,zqp]at hd
 replace h2:=h2 hd
 clear hh
 cbv
 cases hn:g .q .eql n 0
 case true=>
  have hb:n=0:=by rw [bm hg]at hn;simpa using hn
  cbv
  exact aU hF (by rw [<-h2,hb,mt])
 have hb:n≠0:=by rw [bm hg]at hn;simpa using hn
 cbv
 have e1:g .w .add .i64 d 1=d+1:=by rw [aJ hg,aq _ (by omega)]
 have ci:=gV V n
 rw [<-hk n]at ci
 cases hi:isN ns n
 ·rw [hi]at ci
  refine ad hg ci ?_
  cbv
  exact aU hF (by rw [<-h2,wn ns _ _ _ hb hi])
 rw [hi]at ci
 refine ad hg ci ?_
 obtain⟨i1,i2,x,hx⟩:=bD hi
 have xv:n<=1048576:=Int.le_trans (hc▸i2) xs
 have hf:V[(n-1).toNat]? =some x.ac:=by rw [hV];exact gU hx
 have xx:=ua hx
 have hm:d<aM V->uF ns (ns.length-(d+1).toNat) (d+1) x.up=R:=fun xw=>by rw [<-h2,xu d h0 xw,kl ns hb hi,xx]
 have ho:d=aM V->R=0:=fun he=>by rw [<-h2,xt d he,yK ns hb]
 obtain⟨a0,a1,⟨a2,a3,a4,a5,a6,a7,a8,a9,ht,hu,hv,⟨hw,hy⟩,⟨hz,hA⟩,⟨hC,hD⟩,⟨hE,hG⟩,⟨hH,hI⟩,⟨hJ,hK⟩,⟨hL,hM⟩,hN,⟨⟨hO,hP⟩,⟨hQ,hS⟩,⟨hT,hU⟩,⟨hW,hX⟩,⟨hY,hZ⟩,⟨h3,h4⟩⟩,⟨⟨h5,h6⟩,⟨h7,h8⟩,⟨h9,xa⟩,⟨xb,xc⟩,⟨xd,xe⟩,⟨xf,xg⟩⟩,⟨xh,xi,xj,xk⟩,⟨xl,xm,xn,xo⟩,xp,xq⟩,xr,⟨hp⟩⟩:=x
 replace hf:V[(n-1).toNat]? =some [.J a0,.view (vw ah a1),.J a2,.J a3,.J a4,.J a5,.J a6,.J a7,.B a8,.B a9,.J ht,.J hu,.J hv,.J hw,.J hy,.J hz,.J hA,.J hC,.J hD,.J hE,.J hG,.J hH,.J hI,.J hJ,.J hK,.J hL,.J hM,.J hN,.J hO,.J hP,.J hQ,.J hS,.J hT,.J hU,.J hW,.J hX,.J hY,.J hZ,.J h3,.J h4,.J h5,.J h6,.J h7,.J h8,.J h9,.J xa,.J xb,.J xc,.J xd,.J xe,.J xf,.J xg,.J xh,.J xi,.J xj,.J xk,.J xl,.J xm,.J xn,.J xo,.J xp,.J xq,.B xr,.view (vw aI.c hp)]:=hf
 obtain⟨xy,hj⟩:=nmE (vw ah a1)
 obtain⟨hr,ha⟩:=nmE (vw aI.c hp)
 rw [<-hj,<-ha]at hf
 cbv
 refine ad hg (dl V n i1 xv hf) ?_
 cbv
 rw [e1]
 exact ib hB (a0,d+1) [some 0] (wkS [0] (by decide) ⟨⟨_,rfl,rfl,rfl⟩,trivial⟩ zr3) ⟨by simp only;omega,by simp only;omega,fun h=>hm (by simp only at h;omega),fun h=>ho (by simp only at h;omega)⟩ (by show(aM V+1).toNat-(d+1).toNat<(aM V+1).toNat-d.toNat;omega)
def pT(s:bh)(sd:Int)(rtl:Bool)(base:Int):Int:=if kn (rh s sd rtl) base=false then 0 else sg (GO (rh s sd rtl) base)
def qN(s:az)(less:Int):az:=if s.mode=1 then s else⟨s.mode,cl (wrap64 (cl s.n-cl less))⟩
def s9(s:ak)(w:Bool)(o:Int):Int:=if s.ratio<=0\/o<0 then-1 else if w then cl (fdv (wrap64 (cl o*cl s.ratio)) 64)else cl (fdv (wrap64 (cl o*64)) (cl s.ratio))
theorem lv(s:bh)(sd:Int)(rtl:Bool)(base:Int):PC0 135 [.agg (lc (bh.c s)),ai sd,abl rtl,ai base] (.i (pT s sd rtl base)):=by
 obtain⟨⟨a0,a1⟩,⟨a2,a3⟩,⟨a4,a5⟩,⟨a6,a7⟩,⟨a8,a9⟩,⟨hc,hd⟩⟩:=s
 have hb:=nB (⟨⟨a0,a1⟩,⟨a2,a3⟩,⟨a4,a5⟩,⟨a6,a7⟩,⟨a8,a9⟩,⟨hc,hd⟩⟩:bh)
 refine ae (aK f135) ay func135 fun g F hg hF=> ?_
 cbv
 repeat'(first|(refine tW hg (hb _ _) rfl (fun R0 R1 ha he=> ?_);cbv)|(refine bz hg (fE _ _ _) rfl (fun R0 ha=> ?_);cases R0<;>cbv)|((first|refine bq hg (fO _ _ _) rfl (fun R0 ha=> ?_)|refine bq hg (bP _) rfl (fun R0 ha=> ?_));cbv)|(split<;>rename_i hh<;>(try rw [hh])<;>(try simp only [dD hg]at hh)<;>cbv))
 all_goals exact aU hF (by simp only [pT];subst_vars;simp_all)
theorem lR(s:bh)(sd:Int)(rtl:Bool)(base:Int):PC0 169 [.agg (lc (bh.c s)),ai sd,abl rtl,ai base] (.i (pT s sd rtl base)):=by
 obtain⟨⟨a0,a1⟩,⟨a2,a3⟩,⟨a4,a5⟩,⟨a6,a7⟩,⟨a8,a9⟩,⟨hc,hd⟩⟩:=s
 have hb:=ou (⟨⟨a0,a1⟩,⟨a2,a3⟩,⟨a4,a5⟩,⟨a6,a7⟩,⟨a8,a9⟩,⟨hc,hd⟩⟩:bh)
 refine ae (aK f169) ay func169 fun g F hg hF=> ?_
 cbv
 repeat'(first|(refine tW hg (hb _ _) rfl (fun R0 R1 ha he=> ?_);cbv)|(refine bz hg (fK _ _ _) rfl (fun R0 ha=> ?_);cases R0<;>cbv)|((first|refine bq hg (fU _ _ _) rfl (fun R0 ha=> ?_)|refine bq hg (cY _) rfl (fun R0 ha=> ?_));cbv)|(split<;>rename_i hh<;>(try rw [hh])<;>(try simp only [dD hg]at hh)<;>cbv))
 all_goals exact aU hF (by simp only [pT];subst_vars;simp_all)
theorem fk(m n less:Int):PC0 60 [.agg [.J m,.J n],ai less] (.t (agP (qN ⟨m,n⟩ less))):=by
 refine ae (aK f60) ay func60 fun g F hg hF=> ?_
 cbv
 repeat'(first|(refine bq hg (aO _) rfl (fun R0 ha=> ?_);cbv)|(split<;>rename_i hh<;>(try rw [hh])<;>(try simp only [dD hg]at hh)<;>cbv))
 all_goals exact np hF (by simp only [qN,(dq hg)]at *;subst_vars;simp_all)
theorem gN(m n less:Int):PC0 78 [.agg [.J m,.J n],ai less] (.t (agP (qN ⟨m,n⟩ less))):=by
 refine ae (aK f78) ay func78 fun g F hg hF=> ?_
 cbv
 repeat'(first|(refine bq hg (aZ _) rfl (fun R0 ha=> ?_);cbv)|(split<;>rename_i hh<;>(try rw [hh])<;>(try simp only [dD hg]at hh)<;>cbv))
 all_goals exact np hF (by simp only [qN,(dq hg)]at *;subst_vars;simp_all)
theorem mM(s:ak)(w:Bool)(o:Int):PC0 140 [.agg (lc (ak.c s)),abl w,ai o] (.i (s9 s w o)):=by
 cases w<;>(refine ae (aK f140) ay func140 fun g F hg hF=> ?_;cbv;repeat'(first|((first|refine aV hg (aO _) rfl (fun R0 ha=> ?_)|refine aV hg (bJ _ _) rfl (fun R0 ha=> ?_));cbv)|(split<;>rename_i hh<;>(try rw [hh])<;>(try simp only [dD hg]at hh)<;>cbv)))
 all_goals exact aU hF (by simp only [s9,(gq hg)]at *;subst_vars;(try simp_all);(try(intro hx;omega)))
theorem jz(s:ak)(w:Bool)(o:Int):PC0 110 [.agg (lc (ak.c s)),abl w,ai o] (.i (s9 s w o)):=by
 cases w<;>(refine ae (aK f110) ay func110 fun g F hg hF=> ?_;cbv;repeat'(first|((first|refine bq hg (aZ _) rfl (fun R0 ha=> ?_)|refine aV hg (aZ _) rfl (fun R0 ha=> ?_)|refine bq hg (bK _ _) rfl (fun R0 ha=> ?_));cbv)|(split<;>rename_i hh<;>(try rw [hh])<;>(try simp only [dD hg]at hh)<;>cbv)))
 all_goals exact aU hF (by simp only [s9,(gq hg)]at *;subst_vars;(try simp_all);(try(intro hx;omega)))
end Go.Proofs.YtkicjdeddpihaaaGreat
