/- Boxes that are placed apart: their margins, insets, spaces. -/
import Derived.Test.YtkicjdeddpihaaaGreatS4ax
set_option linter.unusedVariables false
set_option linter.unusedSimpArgs false
set_option maxHeartbeats 8000000
namespace Go.Proofs.YtkicjdeddpihaaaGreat
open Go.ChangeShapes Go.WideShapes Go.ChangeAt Go.RowKit Am Go.Proofs.Tryz
set_option maxRecDepth 100000
def uN(r:aK):Bool:=rng r.room (-1) 1048576&&(rng r.wide 0 1048576&&rng r.high 0 1048576)
def F8(rs:List aK):Bool:=rng (rs.length:Int) 1 6&&rs.all uN
variable {xs:List aK}
theorem HC{z M:Int}(hM:M=(xs.length:Int))(hz:M<=z)(h:∀(i:Nat)(v:aK),i<z.toNat->xs[i]? =some v->uN v=true):xs.all uN=true:=by
 rw [zqf]
 exact qB hM hz h
theorem HD{i:Nat}{v:aK}(h:xs[i]? =some v)(hv:uN v=false):xs.all uN=false:=by
 rw [List.all_eq_false]
 exact⟨v,zqd h,by rw [hv];decide⟩
def isN(ns:List ag)(n:Int):Bool:=rng n 1 (ns.length:Int)
def upN(ns:List ag)(n:Int):Int:=match ns[(n-1).toNat]? with|some x=>x.up|none=>0
def uq(ns:List ag):Nat->Int->Int->Int
 |0,k,n=>if n=0 then k else 0
 |f+1,k,n=>if n=0 then k else if isN ns n=true then uq ns f (k+1) (upN ns n)else 0
def wi(ns:List ag)(n:Int):Int:=uq ns ns.length 0 n
theorem ma(ns:List ag)(f:Nat)(k:Int):uq ns f k 0=k:=by cases f<;>simp [uq]
theorem vY(ns:List ag)(f:Nat)(k n:Int)(h0:n≠0)(h:isN ns n=false):uq ns f k n=0:=by cases f<;>simp [uq,h0,h]
theorem kg(ns:List ag){f:Nat}{k n:Int}(h0:n≠0)(h:isN ns n=true):uq ns (f+1) k n=uq ns f (k+1) (upN ns n):=by simp [uq,h0,h]
theorem yw(ns:List ag){k n:Int}(h0:n≠0):uq ns 0 k n=0:=by simp [uq,h0]
variable {ns:List ag}
theorem bC{n:Int}(h:isN ns n=true):1<=n/\n<=(ns.length:Int)/\∃x,ns[(n-1).toNat]? =some x:=by
 simp only [isN,rng,zqs,zqp]at h
 exact⟨h.1,h.2,ns[(n-1).toNat]'(by omega),zqc _⟩
theorem tJ{n:Int}{x:ag}(h:ns[(n-1).toNat]? =some x):upN ns n=x.up:=by unfold upN;rw [h]
theorem zU{M d:Int}{L:Nat}(hM:M=(L:Int))(h0:0<=d)(h1:d<M):L-d.toNat=(L-(d+1).toNat)+1:=by omega
theorem xq{M d:Int}{L:Nat}(hM:M=(L:Int))(h:d=M):L-d.toNat=0:=by omega
def cnt(xs:List Int)(n:Int):Int:=(xs.map fun k=>if k=n then 1 else 0).sum
theorem gP(V:LLA)(n:Int):PC0 55 [.agg [.view V],ai n] (.t (abl (rng n 1 (aN V)))):=by
 refine ad (aM f55) ay func55 fun g F hg hF=> ?_
 cbv
 repeat'(first|(refine bv hg (bi _ _ _) rfl (fun R0 ha=> ?_);cases R0<;>cbv))
 all_goals exact bk hF (by rw [ha,bz hg])
theorem jW(V:LLA)(n:Int):PC0 73 [.agg [.view V],ai n] (.t (abl (rng n 1 (aN V)))):=by
 refine ad (aM f73) ay func73 fun g F hg hF=> ?_
 cbv
 repeat'(first|(refine bv hg (bR _ _ _) rfl (fun R0 ha=> ?_);cases R0<;>cbv))
 all_goals exact bk hF (by rw [ha,bz hg])
theorem dh(V:LLA)(n:Int)(h1:1<=n)(h2:n<=1048576){a0:Int}{Va1:LLA}{a2:Int}{a3:Int}{a4:Int}{a5:Int}{a6:Int}{a7:Int}{a8:Bool}{a9:Bool}{a10:Int}{a11:Int}{a12:Int}{a13:Int}{a14:Int}{a15:Int}{a16:Int}{a17:Int}{a18:Int}{a19:Int}{a20:Int}{a21:Int}{a22:Int}{a23:Int}{a24:Int}{a25:Int}{a26:Int}{a27:Int}{a28:Int}{a29:Int}{a30:Int}{a31:Int}{a32:Int}{a33:Int}{a34:Int}{a35:Int}{a36:Int}{a37:Int}{a38:Int}{a39:Int}{a40:Int}{a41:Int}{a42:Int}{a43:Int}{a44:Int}{a45:Int}{a46:Int}{a47:Int}{a48:Int}{a49:Int}{a50:Int}{a51:Int}{a52:Int}{a53:Int}{a54:Int}{a55:Int}{a56:Int}{a57:Int}{a58:Int}{a59:Int}{a60:Int}{a61:Int}{a62:Bool}{Va63:LLA}(hy:V[(n-1).toNat]? =some [.J a0,.view Va1,.J a2,.J a3,.J a4,.J a5,.J a6,.J a7,.B a8,.B a9,.J a10,.J a11,.J a12,.J a13,.J a14,.J a15,.J a16,.J a17,.J a18,.J a19,.J a20,.J a21,.J a22,.J a23,.J a24,.J a25,.J a26,.J a27,.J a28,.J a29,.J a30,.J a31,.J a32,.J a33,.J a34,.J a35,.J a36,.J a37,.J a38,.J a39,.J a40,.J a41,.J a42,.J a43,.J a44,.J a45,.J a46,.J a47,.J a48,.J a49,.J a50,.J a51,.J a52,.J a53,.J a54,.J a55,.J a56,.J a57,.J a58,.J a59,.J a60,.J a61,.B a62,.view Va63]):PC0 57 [.agg [.view V],ai n] (.t (.agg [.J a0,.view Va1,.J a2,.J a3,.J a4,.J a5,.J a6,.J a7,.B a8,.B a9,.J a10,.J a11,.J a12,.J a13,.J a14,.J a15,.J a16,.J a17,.J a18,.J a19,.J a20,.J a21,.J a22,.J a23,.J a24,.J a25,.J a26,.J a27,.J a28,.J a29,.J a30,.J a31,.J a32,.J a33,.J a34,.J a35,.J a36,.J a37,.J a38,.J a39,.J a40,.J a41,.J a42,.J a43,.J a44,.J a45,.J a46,.J a47,.J a48,.J a49,.J a50,.J a51,.J a52,.J a53,.J a54,.J a55,.J a56,.J a57,.J a58,.J a59,.J a60,.J a61,.B a62,.view Va63])):=by
 obtain⟨m,hm⟩:=nmE (n-1)
 rw [<-hm]at hy
 refine ad (aM f57) ay func57 fun g F hg hF=> ?_
 cbv
 have e1:g .w .sub .i64 n 1=m:=by rw [dp hg,ak _ (by omega),hm]
 rw [e1]
 refine goX hg _ (by omega) hy rfl ?_
 cbv
 exact fw hF rfl ⟨rfl,rfl⟩
theorem gg(V:LLA)(n:Int)(h1:1<=n)(h2:n<=1048576){a0:Int}{Va1:LLA}{a2:Int}{a3:Int}{a4:Int}{a5:Int}{a6:Int}{a7:Int}{a8:Bool}{a9:Bool}{a10:Int}{a11:Int}{a12:Int}{a13:Int}{a14:Int}{a15:Int}{a16:Int}{a17:Int}{a18:Int}{a19:Int}{a20:Int}{a21:Int}{a22:Int}{a23:Int}{a24:Int}{a25:Int}{a26:Int}{a27:Int}{a28:Int}{a29:Int}{a30:Int}{a31:Int}{a32:Int}{a33:Int}{a34:Int}{a35:Int}{a36:Int}{a37:Int}{a38:Int}{a39:Int}{a40:Int}{a41:Int}{a42:Int}{a43:Int}{a44:Int}{a45:Int}{a46:Int}{a47:Int}{a48:Int}{a49:Int}{a50:Int}{a51:Int}{a52:Int}{a53:Int}{a54:Int}{a55:Int}{a56:Int}{a57:Int}{a58:Int}{a59:Int}{a60:Int}{a61:Int}{a62:Bool}{Va63:LLA}(hy:V[(n-1).toNat]? =some [.J a0,.view Va1,.J a2,.J a3,.J a4,.J a5,.J a6,.J a7,.B a8,.B a9,.J a10,.J a11,.J a12,.J a13,.J a14,.J a15,.J a16,.J a17,.J a18,.J a19,.J a20,.J a21,.J a22,.J a23,.J a24,.J a25,.J a26,.J a27,.J a28,.J a29,.J a30,.J a31,.J a32,.J a33,.J a34,.J a35,.J a36,.J a37,.J a38,.J a39,.J a40,.J a41,.J a42,.J a43,.J a44,.J a45,.J a46,.J a47,.J a48,.J a49,.J a50,.J a51,.J a52,.J a53,.J a54,.J a55,.J a56,.J a57,.J a58,.J a59,.J a60,.J a61,.B a62,.view Va63]):PC0 75 [.agg [.view V],ai n] (.t (.agg [.J a0,.view Va1,.J a2,.J a3,.J a4,.J a5,.J a6,.J a7,.B a8,.B a9,.J a10,.J a11,.J a12,.J a13,.J a14,.J a15,.J a16,.J a17,.J a18,.J a19,.J a20,.J a21,.J a22,.J a23,.J a24,.J a25,.J a26,.J a27,.J a28,.J a29,.J a30,.J a31,.J a32,.J a33,.J a34,.J a35,.J a36,.J a37,.J a38,.J a39,.J a40,.J a41,.J a42,.J a43,.J a44,.J a45,.J a46,.J a47,.J a48,.J a49,.J a50,.J a51,.J a52,.J a53,.J a54,.J a55,.J a56,.J a57,.J a58,.J a59,.J a60,.J a61,.B a62,.view Va63])):=by
 obtain⟨m,hm⟩:=nmE (n-1)
 rw [<-hm]at hy
 refine ad (aM f75) ay func75 fun g F hg hF=> ?_
 cbv
 have e1:g .w .sub .i64 n 1=m:=by rw [dp hg,ak _ (by omega),hm]
 rw [e1]
 refine goX hg _ (by omega) hy rfl ?_
 cbv
 exact fw hF rfl ⟨rfl,rfl⟩
theorem sE(rs:List aK)(hl:rs.length<=1048576):PC0 123 [.agg [.view (vw aK.c rs)]] (.t (abl (F8 rs))):=by
 obtain⟨V,hV⟩:=nmE (vw aK.c rs)
 have hn:=lmV hV
 have iV:=imV hV
 have kV:=kmV (k:=3) hV fun _=>rfl
 have dV:=dmV hV
 have hd:aN V=(rs.length:Int):=by rw [ah];omega
 have hf:0<=aN V:=by omega
 have hm:aN V<=1048576:=by omega
 have hj:F8 rs=(rng (aN V) 1 6&&rs.all uN):=by rw [hd];rfl
 rw [<-hV,hj]
 refine ad (aM f123) ay func123 fun g F hg hF=> ?_
 cbv
 refine bO hg ay (by kernel_rfl) (fun z:Int=>[(1,.p 0),(3,.i z)]) (fun _=>[.bx 117 1 [.view V]]) (fun z=>0<=z/\z<=aN V/\∀(i:Nat)(v:aK),i<z.toNat->rs[i]? =some v->uN v=true) (fun z=>(aN V).toNat-z.toNat)
  0 [some 0] ⟨Int.le_refl 0,hf,fun i v hi=>by simp at hi⟩ (wkS [0] (by decide) ⟨⟨_,rfl,rfl,rfl⟩,trivial⟩ zr2) (fun z B hs hB=> ?_)
 obtain⟨h0,h1,h2⟩:=hs
 cbv
 cases hc:g .q .lss z (g .ln V)
 ·rw [bg hg,bz hg,zqo]at hc
  have he:=HC hd (by omega) h2
  cbv
  repeat'(first|(refine bv hg (bi _ _ _) rfl (fun R0 hb=> ?_);cases R0<;>cbv))
  all_goals exact bk hF (by rw [hb,bz hg,he,Bool.and_true])
 ·rw [bg hg,bz hg,zqp]at hc
  cbv
  obtain⟨x,hx⟩:=pk (xs:=rs) h0 (gc hd hc)
  have hk:V[z.toNat]? =some (lc (aK.c x)):=by rw [hV];exact ba hx
  obtain⟨x0,x1,x2⟩:=x
  refine goX hg _ h0 hk rfl ?_
  cbv
  have ha:uN ⟨x0,x1,x2⟩=false->(rng (aN V) 1 6&&rs.all uN)=false:=fun h=>by rw [HD hx h,Bool.and_false]
  have e1:g .w .add .i64 z 1=z+1:=by rw [aJ hg,ak _ (by omega)]
  repeat'(first|(refine bv hg (bi _ _ _) rfl (fun R0 hb=> ?_);cases R0<;>cbv))
  all_goals first
   |exact bk hF (ha (by simp only [uN];clear hF;simp_all)).symm
   |skip
  have hh:uN ⟨x0,x1,x2⟩=true:=by simp only [uN];clear hF hB;simp_all
  rw [e1]
  refine gX hB (z+1) [some 0] (wkS [0] (by decide) ⟨⟨_,rfl,rfl,rfl⟩,trivial⟩ zr2) ⟨by omega,by omega,fun i v hi hv=> ?_⟩ (by omega)
  by_cases hi2:i<z.toNat
  ·exact h2 i v hi2 hv
  ·rw [show i=z.toNat by omega,hx]at hv
   cases hv
   exact hh
theorem th(rs:List aK)(hl:rs.length<=1048576):PC0 150 [.agg [.view (vw aK.c rs)]] (.t (abl (F8 rs))):=by
 obtain⟨V,hV⟩:=nmE (vw aK.c rs)
 have hn:=lmV hV
 have iV:=imV hV
 have kV:=kmV (k:=3) hV fun _=>rfl
 have dV:=dmV hV
 have hb:aN V=(rs.length:Int):=by rw [ah];omega
 have hf:0<=aN V:=by omega
 have hm:aN V<=1048576:=by omega
 have hj:F8 rs=(rng (aN V) 1 6&&rs.all uN):=by rw [hb];rfl
 rw [<-hV,hj]
 refine ad (aM f150) ay func150 fun g F hg hF=> ?_
 cbv
 have cr:=bR (g .ln V) 1 6
 rw [bz hg]at cr
 obtain⟨Q,hQ⟩:=nmE (rng (aN V) 1 6)
 rw [<-hQ]at cr hF
 rw [bz hg]
 (first|refine ae hg cr ?_|refine aa hg cr ?_)
 cases Q
 case false=>
  cbv
  exact bk hF rfl
 cbv
 refine bO hg ay (by kernel_rfl) (fun z:Int=>[(1,.p 0),(11,.v V),(12,.i (g .ln V)),(13,.i z)]) (fun _=>[.bx 117 1 [.view V]]) (fun z=>0<=z/\z<=aN V/\∀(i:Nat)(v:aK),i<z.toNat->rs[i]? =some v->uN v=true) (fun z=>(aN V).toNat-z.toNat)
  0 [some 0] ⟨Int.le_refl 0,hf,fun i v hi=>by simp at hi⟩ (wkS [0] (by decide) ⟨⟨_,rfl,rfl,rfl⟩,trivial⟩ zr4) (fun z B hs hB=> ?_)
 obtain⟨h0,h1,h2⟩:=hs
 cbv
 cases hc:g .q .lss z (g .ln V)
 ·rw [bg hg,bz hg,zqo]at hc
  have hd:=HC hb (by omega) h2
  cbv
  exact bk hF (by rw [hd];rfl)
 ·rw [bg hg,bz hg,zqp]at hc
  cbv
  obtain⟨x,hx⟩:=pk (xs:=rs) h0 (gc hb hc)
  have hk:V[z.toNat]? =some (lc (aK.c x)):=by rw [hV];exact ba hx
  obtain⟨x0,x1,x2⟩:=x
  refine goX hg _ h0 hk rfl ?_
  cbv
  have ha:uN ⟨x0,x1,x2⟩=false->(true&&rs.all uN)=false:=fun h=>by rw [HD hx h,Bool.and_false]
  have e1:g .w .add .i64 z 1=z+1:=by rw [aJ hg,ak _ (by omega)]
  repeat'(first|(refine bv hg (bR _ _ _) rfl (fun R0 he=> ?_);cases R0<;>cbv))
  all_goals first
   |exact bk hF (ha (by simp only [uN];clear hF;simp_all)).symm
   |skip
  have hh:uN ⟨x0,x1,x2⟩=true:=by simp only [uN];clear hF hB;simp_all
  rw [e1]
  refine gX hB (z+1) [some 0] (wkS [0] (by decide) ⟨⟨_,rfl,rfl,rfl⟩,trivial⟩ zr4) ⟨by omega,by omega,fun i v hi hv=> ?_⟩ (by omega)
  by_cases hi2:i<z.toNat
  ·exact h2 i v hi2 hv
  ·rw [show i=z.toNat by omega,hx]at hv
   cases hv
   exact hh
theorem ni(xs:List Int)(n:Int)(hl:xs.length<=1048576):PC0 122 [.c (.view (vw aj xs)),ai n] (.i (cnt xs n)):=by
 obtain⟨V,hV⟩:=nmE (vw aj xs)
 have hj:=lmV hV
 have iV:=imV hV
 have kV:=kmV (k:=1) hV fun _=>rfl
 have dV:=dmV hV
 have hf:aN V=(xs.length:Int):=by rw [ah];omega
 have hd:0<=aN V:=by omega
 have hi:aN V<=1048576:=by omega
 have ha:∀z:Int,aN V<=z->xT (fun k=>if k=n then 1 else 0) xs z.toNat=cnt xs n:=fun z hz=>lU _ (by omega)
 rw [<-hV]
 refine ad (aM f122) ay func122 fun g F hg hF=> ?_
 cbv
 refine bO hg ay (by kernel_rfl) (fun s:Int×Int=>[(0,.v V),(1,.i n),(5,.i s.2),(6,.i s.1)]) (fun _=>[]) (fun s=>0<=s.1/\s.1<=aN V/\0<=s.2/\s.2<=s.1/\s.2=xT (fun k=>if k=n then 1 else 0) xs s.1.toNat) (fun s=>(aN V).toNat-s.1.toNat)
  (0,0) [] ⟨Int.le_refl 0,hd,Int.le_refl 0,Int.le_refl 0,(jz _ _).symm⟩ (wk0 zr4) (fun s B hs hB=> ?_)
 obtain⟨z,d⟩:=s
 obtain⟨h0,h1,h2,h3,h4⟩:=hs
 simp only at h0 h1 h2 h3 h4
 cbv
 cases hc:g .q .lss z (g .ln V)
 ·rw [bg hg,bz hg,zqo]at hc
  cbv
  exact aV hF (by rw [h4,ha z (by omega)])
 ·rw [bg hg,bz hg,zqp]at hc
  cbv
  obtain⟨x,hx⟩:=pk (xs:=xs) h0 (gc hf hc)
  have hh:V[z.toNat]? =some (lc (aj x)):=by rw [hV];exact ba hx
  have hs:=jA (fun k:Int=>if k=n then(1:Int)else 0) hx
  refine goX hg _ h0 hh rfl ?_
  cbv
  have e1:g .w .add .i64 z 1=z+1:=by rw [aJ hg,ak _ (by omega)]
  cases he:g .q .eql x n
  ·have hb:x≠n:=by rw [bn hg]at he;simpa using he
   simp only [if_neg hb]at hs
   cbv
   rw [e1]
   exact gX hB (z+1,d) [] (wk0 zr4) ⟨by simp only;omega,by simp only;omega,h2,by simp only;omega,by simp only;rw [show(z+1).toNat=z.toNat+1 by omega,hs];omega⟩ (by show(aN V).toNat-(z+1).toNat<(aN V).toNat-z.toNat;omega)
  ·have hb:x=n:=by rw [bn hg]at he;simpa using he
   simp only [if_pos hb]at hs
   cbv
   have e2:g .w .add .i64 d 1=d+1:=by rw [aJ hg,ak _ (by omega)]
   rw [e1,e2]
   exact gX hB (z+1,d+1) [] (wk0 zr4) ⟨by simp only;omega,by simp only;omega,by simp only;omega,by simp only;omega,by simp only;rw [show(z+1).toNat=z.toNat+1 by omega,hs];omega⟩ (by show(aN V).toNat-(z+1).toNat<(aN V).toNat-z.toNat;omega)
theorem tx(ns:List ag)(n0:Int)(hl:ns.length<=1048576):PC0 149 [.agg [.view (vwA ag.ac ns)],ai n0] (.i (wi ns n0)):=by
 obtain⟨V,hV⟩:=nmE (vwA ag.ac ns)
 have hc:aN V=(ns.length:Int):=by rw [ah,hV,bB]
 have xr:0<=aN V:=by omega
 have xs:aN V<=1048576:=by omega
 have hh:∀n,isN ns n=rng n 1 (aN V):=fun n=>by rw [hc];rfl
 have xv:∀d:Int,0<=d->d<aN V->ns.length-d.toNat=(ns.length-(d+1).toNat)+1:=fun d h0 h1=>zU hc h0 h1
 have xu:∀d:Int,d=aN V->ns.length-d.toNat=0:=fun d h=>xq hc h
 have hm:uq ns (ns.length-(0:Int).toNat) 0 n0=wi ns n0:=rfl
 obtain⟨R,hR⟩:=nmE (wi ns n0)
 rw [<-hR]at hm⊢
 rw [<-hV]
 refine ad (aM f149) ay func149 fun g F hg hF=> ?_
 cbv
 refine bO hg ay (by kernel_rfl) (fun s:Int×Int=>[(1,.i s.1),(2,.p 0),(5,.i s.2)]) (fun _=>[.bx 32 1 [.view V]]) (fun s=>0<=s.2/\s.2<=aN V/\uq ns (ns.length-s.2.toNat) s.2 s.1=R) (fun s=>(aN V).toNat-s.2.toNat)
  (n0,0) [some 0] ⟨Int.le_refl 0,xr,hm⟩ (wkS [0] (by decide) ⟨⟨_,rfl,rfl,rfl⟩,trivial⟩ zr3) (fun s B hs hB=> ?_)
 obtain⟨n,d⟩:=s
 obtain⟨h0,h1,h2⟩:=hs
 simp only at h0 h1 h2
 cbv
 cases hn:g .q .neq n 0
 ·have hb:n=0:=by rw [bj hg]at hn;simpa using hn
  cbv
  exact aV hF (by rw [<-h2,hb,ma])
 have hb:n≠0:=by rw [bj hg]at hn;simpa using hn
 cbv
 have e1:g .w .add .i64 d 1=d+1:=by rw [aJ hg,ak _ (by omega)]
 obtain⟨D,hD⟩:=nmE (d+1)
 rw [<-hD]at e1
 rw [e1]
 have ci:=jW V n
 rw [<-hh n]at ci
 cases hi:isN ns n
 ·rw [hi]at ci
  refine ae hg ci ?_
  cbv
  exact aV hF (by rw [<-h2,vY ns _ _ _ hb hi])
 rw [hi]at ci
 refine ae hg ci ?_
 cbv
 cases hd:g .q .gtr D (g .ln V)
 case true=>
  rw [cj hg,bz hg,zqp]at hd
  cbv
  exact aV hF (by rw [<-h2,xu d (by omega),yw ns hb])
 rw [cj hg,bz hg,zqo]at hd
 have xx:d<aN V:=by omega
 have xt:=xv d h0 xx
 obtain⟨i1,i2,x,hx⟩:=bC hi
 have xw:n<=1048576:=Int.le_trans (hc▸i2) xs
 have he:V[(n-1).toNat]? =some x.ac:=by rw [hV];exact gO hx
 have xy:=tJ hx
 have hj:uq ns (ns.length-D.toNat) D x.up=R:=by rw [<-h2,xt,kg ns hb hi,xy,hD]
 obtain⟨a0,a1,⟨a2,a3,a4,a5,a6,a7,a8,a9,hp,hq,hr,⟨ht,hu⟩,⟨hv,hw⟩,⟨hy,hz⟩,⟨hA,hC⟩,⟨hE,hG⟩,⟨hH,hI⟩,⟨hJ,hK⟩,hL,⟨⟨hM,hN⟩,⟨hO,hP⟩,⟨hQ,hS⟩,⟨hT,hU⟩,⟨hW,hX⟩,⟨hY,hZ⟩⟩,⟨⟨h3,h4⟩,⟨h5,h6⟩,⟨h7,h8⟩,⟨h9,xa⟩,⟨xb,xc⟩,⟨xd,xe⟩⟩,⟨xf,xg,xh,xi⟩,⟨xj,xk,xl,xm⟩,xn,xo⟩,xp,⟨hk⟩⟩:=x
 replace he:V[(n-1).toNat]? =some [.J a0,.view (vw aj a1),.J a2,.J a3,.J a4,.J a5,.J a6,.J a7,.B a8,.B a9,.J hp,.J hq,.J hr,.J ht,.J hu,.J hv,.J hw,.J hy,.J hz,.J hA,.J hC,.J hE,.J hG,.J hH,.J hI,.J hJ,.J hK,.J hL,.J hM,.J hN,.J hO,.J hP,.J hQ,.J hS,.J hT,.J hU,.J hW,.J hX,.J hY,.J hZ,.J h3,.J h4,.J h5,.J h6,.J h7,.J h8,.J h9,.J xa,.J xb,.J xc,.J xd,.J xe,.J xf,.J xg,.J xh,.J xi,.J xj,.J xk,.J xl,.J xm,.J xn,.J xo,.B xp,.view (vw aK.c hk)]:=he
 obtain⟨xz,hf⟩:=nmE (vw aj a1)
 obtain⟨ho,ha⟩:=nmE (vw aK.c hk)
 rw [<-hf,<-ha]at he
 cbv
 refine ae hg (gg V n i1 xw he) ?_
 cbv
 exact gX hB (a0,D) [some 0] (wkS [0] (by decide) ⟨⟨_,rfl,rfl,rfl⟩,trivial⟩ zr3) ⟨by simp only;omega,by simp only;omega,hj⟩ (by show(aN V).toNat-D.toNat<(aN V).toNat-d.toNat;omega)
theorem sJ(ns:List ag)(n0:Int)(hl:ns.length<=1048576):PC0 121 [.agg [.view (vwA ag.ac ns)],ai n0] (.i (wi ns n0)):=by
 obtain⟨V,hV⟩:=nmE (vwA ag.ac ns)
 have hc:aN V=(ns.length:Int):=by rw [ah,hV,bB]
 have xA:0<=aN V:=by omega
 have xt:aN V<=1048576:=by omega
 have hk:∀n,isN ns n=rng n 1 (aN V):=fun n=>by rw [hc];rfl
 have xv:∀d:Int,0<=d->d<aN V->ns.length-d.toNat=(ns.length-(d+1).toNat)+1:=fun d h0 h1=>zU hc h0 h1
 have xu:∀d:Int,d=aN V->ns.length-d.toNat=0:=fun d h=>xq hc h
 have hq:uq ns (ns.length-(0:Int).toNat) 0 n0=wi ns n0:=rfl
 obtain⟨R,hR⟩:=nmE (wi ns n0)
 rw [<-hR]at hq⊢
 rw [<-hV]
 refine ad (aM f121) ay func121 fun g F hg hF=> ?_
 cbv
 refine bO hg ay (by kernel_rfl) (fun s:Int×Int=>[(1,.i s.1),(2,.p 0),(5,.i s.2)]) (fun _=>[.bx 32 1 [.view V]]) (fun s=>0<=s.2/\s.2<=aN V+1/\(s.2<=aN V->uq ns (ns.length-s.2.toNat) s.2 s.1=R)/\(s.2=aN V+1->R=0)) (fun s=>(aN V+1).toNat-s.2.toNat)
  (n0,0) [some 0] ⟨Int.le_refl 0,by simp only;omega,fun _=>hq,fun h=>by simp only at h;omega⟩ (wkS [0] (by decide) ⟨⟨_,rfl,rfl,rfl⟩,trivial⟩ zr3) (fun s B hs hB=> ?_)
 obtain⟨n,d⟩:=s
 obtain⟨h0,h1,h2,hh⟩:=hs
 simp only at h0 h1 h2 hh
 cbv
 cases hd:g .q .leq d (g .ln V)
 case false=>
  rw [iR hg,bz hg,zqo]at hd
  cbv
  exact aV hF (hh (by omega)).symm
 rw [iR hg,bz hg,zqp]at hd
 replace h2:=h2 hd
 clear hh
 cbv
 cases hn:g .q .eql n 0
 case true=>
  have hb:n=0:=by rw [bn hg]at hn;simpa using hn
  cbv
  exact aV hF (by rw [<-h2,hb,ma])
 have hb:n≠0:=by rw [bn hg]at hn;simpa using hn
 cbv
 have e1:g .w .add .i64 d 1=d+1:=by rw [aJ hg,ak _ (by omega)]
 have ci:=gP V n
 rw [<-hk n]at ci
 cases hi:isN ns n
 ·rw [hi]at ci
  refine ae hg ci ?_
  cbv
  exact aV hF (by rw [<-h2,vY ns _ _ _ hb hi])
 rw [hi]at ci
 refine ae hg ci ?_
 obtain⟨i1,i2,x,hx⟩:=bC hi
 have xw:n<=1048576:=Int.le_trans (hc▸i2) xt
 have hf:V[(n-1).toNat]? =some x.ac:=by rw [hV];exact gO hx
 have xy:=tJ hx
 have hm:d<aN V->uq ns (ns.length-(d+1).toNat) (d+1) x.up=R:=fun xx=>by rw [<-h2,xv d h0 xx,kg ns hb hi,xy]
 have ho:d=aN V->R=0:=fun he=>by rw [<-h2,xu d he,yw ns hb]
 obtain⟨a0,a1,⟨a2,a3,a4,a5,a6,a7,a8,a9,ht,hu,hv,⟨hw,hy⟩,⟨hz,hA⟩,⟨hC,hD⟩,⟨hE,hG⟩,⟨hH,hI⟩,⟨hJ,hK⟩,⟨hL,hM⟩,hN,⟨⟨hO,hP⟩,⟨hQ,hS⟩,⟨hT,hU⟩,⟨hW,hX⟩,⟨hY,hZ⟩,⟨h3,h4⟩⟩,⟨⟨h5,h6⟩,⟨h7,h8⟩,⟨h9,xa⟩,⟨xb,xc⟩,⟨xd,xe⟩,⟨xf,xg⟩⟩,⟨xh,xi,xj,xk⟩,⟨xl,xm,xn,xo⟩,xp,xr⟩,xs,⟨hp⟩⟩:=x
 replace hf:V[(n-1).toNat]? =some [.J a0,.view (vw aj a1),.J a2,.J a3,.J a4,.J a5,.J a6,.J a7,.B a8,.B a9,.J ht,.J hu,.J hv,.J hw,.J hy,.J hz,.J hA,.J hC,.J hD,.J hE,.J hG,.J hH,.J hI,.J hJ,.J hK,.J hL,.J hM,.J hN,.J hO,.J hP,.J hQ,.J hS,.J hT,.J hU,.J hW,.J hX,.J hY,.J hZ,.J h3,.J h4,.J h5,.J h6,.J h7,.J h8,.J h9,.J xa,.J xb,.J xc,.J xd,.J xe,.J xf,.J xg,.J xh,.J xi,.J xj,.J xk,.J xl,.J xm,.J xn,.J xo,.J xp,.J xr,.B xs,.view (vw aK.c hp)]:=hf
 obtain⟨xz,hj⟩:=nmE (vw aj a1)
 obtain⟨hr,ha⟩:=nmE (vw aK.c hp)
 rw [<-hj,<-ha]at hf
 cbv
 refine ae hg (dh V n i1 xw hf) ?_
 cbv
 rw [e1]
 exact gX hB (a0,d+1) [some 0] (wkS [0] (by decide) ⟨⟨_,rfl,rfl,rfl⟩,trivial⟩ zr3) ⟨by simp only;omega,by simp only;omega,fun h=>hm (by simp only at h;omega),fun h=>ho (by simp only at h;omega)⟩ (by show(aN V+1).toNat-(d+1).toNat<(aN V+1).toNat-d.toNat;omega)
def o9(s:bh)(sd:Int)(rtl:Bool)(base:Int):Int:=if kn (qN s sd rtl) base=false then 0 else sg (GF (qN s sd rtl) base)
def qu(s:az)(less:Int):az:=if s.mode=1 then s else⟨s.mode,cl (wrap64 (cl s.n-cl less))⟩
def sM(s:ao)(w:Bool)(o:Int):Int:=if s.ratio<=0\/o<0 then-1 else if w then cl (fdv (wrap64 (cl o*cl s.ratio)) 64)else cl (fdv (wrap64 (cl o*64)) (cl s.ratio))
theorem lg(s:bh)(sd:Int)(rtl:Bool)(base:Int):PC0 135 [.agg (lc (bh.c s)),ai sd,abl rtl,ai base] (.i (o9 s sd rtl base)):=by
 obtain⟨⟨a0,a1⟩,⟨a2,a3⟩,⟨a4,a5⟩,⟨a6,a7⟩,⟨a8,a9⟩,⟨hc,hd⟩⟩:=s
 have hb:=nm (⟨⟨a0,a1⟩,⟨a2,a3⟩,⟨a4,a5⟩,⟨a6,a7⟩,⟨a8,a9⟩,⟨hc,hd⟩⟩:bh)
 refine ad (aM f135) ay func135 fun g F hg hF=> ?_
 cbv
 repeat'(first|(refine tE hg (hb _ _) rfl (fun R0 R1 ha he=> ?_);cbv)|(refine bv hg (fA _ _ _) rfl (fun R0 ha=> ?_);cases R0<;>cbv)|((first|refine bm hg (fK _ _ _) rfl (fun R0 ha=> ?_)|refine bm hg (bP _) rfl (fun R0 ha=> ?_));cbv)|(split<;>rename_i hh<;>(try rw [hh])<;>(try simp only [dD hg]at hh)<;>cbv))
 all_goals exact aV hF (by simp only [o9];subst_vars;simp_all)
theorem lD(s:bh)(sd:Int)(rtl:Bool)(base:Int):PC0 169 [.agg (lc (bh.c s)),ai sd,abl rtl,ai base] (.i (o9 s sd rtl base)):=by
 obtain⟨⟨a0,a1⟩,⟨a2,a3⟩,⟨a4,a5⟩,⟨a6,a7⟩,⟨a8,a9⟩,⟨hc,hd⟩⟩:=s
 have hb:=nT (⟨⟨a0,a1⟩,⟨a2,a3⟩,⟨a4,a5⟩,⟨a6,a7⟩,⟨a8,a9⟩,⟨hc,hd⟩⟩:bh)
 refine ad (aM f169) ay func169 fun g F hg hF=> ?_
 cbv
 repeat'(first|(refine tE hg (hb _ _) rfl (fun R0 R1 ha he=> ?_);cbv)|(refine bv hg (fF _ _ _) rfl (fun R0 ha=> ?_);cases R0<;>cbv)|((first|refine bm hg (fP _ _ _) rfl (fun R0 ha=> ?_)|refine bm hg (bZ _) rfl (fun R0 ha=> ?_));cbv)|(split<;>rename_i hh<;>(try rw [hh])<;>(try simp only [dD hg]at hh)<;>cbv))
 all_goals exact aV hF (by simp only [o9];subst_vars;simp_all)
theorem fh(m n less:Int):PC0 60 [.agg [.J m,.J n],ai less] (.t (agP (qu ⟨m,n⟩ less))):=by
 refine ad (aM f60) ay func60 fun g F hg hF=> ?_
 cbv
 repeat'(first|(refine bm hg (aQ _) rfl (fun R0 ha=> ?_);cbv)|(split<;>rename_i hh<;>(try rw [hh])<;>(try simp only [dD hg]at hh)<;>cbv))
 all_goals exact mX hF (by simp only [qu,(dp hg)]at *;subst_vars;simp_all)
theorem gI(m n less:Int):PC0 78 [.agg [.J m,.J n],ai less] (.t (agP (qu ⟨m,n⟩ less))):=by
 refine ad (aM f78) ay func78 fun g F hg hF=> ?_
 cbv
 repeat'(first|(refine bm hg (aZ _) rfl (fun R0 ha=> ?_);cbv)|(split<;>rename_i hh<;>(try rw [hh])<;>(try simp only [dD hg]at hh)<;>cbv))
 all_goals exact mX hF (by simp only [qu,(dp hg)]at *;subst_vars;simp_all)
theorem mA(s:ao)(w:Bool)(o:Int):PC0 140 [.agg (lc (ao.c s)),abl w,ai o] (.i (sM s w o)):=by
 cases w<;>(refine ad (aM f140) ay func140 fun g F hg hF=> ?_;cbv;repeat'(first|((first|refine aX hg (aQ _) rfl (fun R0 ha=> ?_)|refine aX hg (bI _ _) rfl (fun R0 ha=> ?_));cbv)|(split<;>rename_i hh<;>(try rw [hh])<;>(try simp only [dD hg]at hh)<;>cbv)))
 all_goals exact aV hF (by simp only [sM,(gk hg)]at *;subst_vars;(try simp_all);(try(intro hx;omega)))
theorem jq(s:ao)(w:Bool)(o:Int):PC0 110 [.agg (lc (ao.c s)),abl w,ai o] (.i (sM s w o)):=by
 cases w<;>(refine ad (aM f110) ay func110 fun g F hg hF=> ?_;cbv;repeat'(first|((first|refine bm hg (aZ _) rfl (fun R0 ha=> ?_)|refine aX hg (aZ _) rfl (fun R0 ha=> ?_)|refine bm hg (bJ _ _) rfl (fun R0 ha=> ?_));cbv)|(split<;>rename_i hh<;>(try rw [hh])<;>(try simp only [dD hg]at hh)<;>cbv)))
 all_goals exact aV hF (by simp only [sM,(gk hg)]at *;subst_vars;(try simp_all);(try(intro hx;omega)))
end Go.Proofs.YtkicjdeddpihaaaGreat
