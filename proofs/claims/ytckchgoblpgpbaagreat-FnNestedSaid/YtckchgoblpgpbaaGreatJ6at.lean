/- Valid trees. -/
import Derived.Test.YtckchgoblpgpbaaGreatJ6as
set_option linter.unusedVariables false
set_option linter.unusedSimpArgs false
set_option maxHeartbeats 8000000
namespace Go.Proofs.YtckchgoblpgpbaaGreat
open Go.ChangeShapes Go.WideShapes Go.ChangeAt Go.RowKit Am Go.Proofs.Tryz
set_option maxRecDepth 100000
def rng(n l m:Int):Bool:=decide (l<=n)&&decide (n<=m)
def vOk(v:jR):Bool:=if v.kind=0\/v.kind=3 then decide (v.n=0)else if v.kind=1 then rng v.n (-1048576) 1048576 else if v.kind=2 then rng v.n (-1000) 1000 else false
def zOk(v:jR):Bool:=vOk v&&decide (0<=v.n)
def zb(s:bM):Bool:=vOk s.left&&(vOk s.top&&(vOk s.right&&(vOk s.bottom&&(vOk s.start&&vOk s.fin))))
def zC(e:dI):Bool:=rng e.left 0 1048576&&(rng e.top 0 1048576&&(rng e.right 0 1048576&&rng e.bottom 0 1048576))
def stV(s:ah):List jR:=[s.basis,s.width,s.height,s.minWidth,s.minHeight,s.maxWidth,s.maxHeight]
def stN(s:ah):Bool:=rng s.dir 1 4&&(rng s.wrap 1 3&&(rng s.justify 1 6&&(rng s.items 1 5&&(rng s.self 0 5&&(rng s.content 1 6&&(rng s.order (-1000) 1000&&(rng s.grow 0 1000&&(rng s.shrink 0 1000&&(rng s.ratio 0 6400&&(rng s.rowGap 0 1048576&&rng s.colGap 0 1048576))))))))))
def vJ(s:ah):Bool:=stN s&&((stV s).all zOk&&(zb s.margin&&(zb s.inset&&(zC s.pad&&zC s.border))))
theorem bm(n l m:Int):PC0 39 [ai n,ai l,ai m] (.t (abl (rng n l m))):=qK n l m
theorem bD(n l m:Int):PC0 68 [ai n,ai l,ai m] (.t (abl (rng n l m))):=bI n l m
theorem eO(k n:Int):PC0 95 [.agg [.J k,.J n]] (.t (abl (vOk ⟨k,n⟩))):=by
 refine ae (aM f95) aB func95 fun g F hg hF=> ?_
 cbv
 repeat'(first|(refine bN hg (bm _ _ _) rfl (fun R0 ha=> ?_);cases R0<;>cbv)|(split<;>rename_i hh<;>(try rw [hh])<;>(try simp only [ew hg]at hh)<;>cbv))
 all_goals exact aY hF (by(try simp only [bA hg]);simp only [vOk];grind)
theorem e9(k n:Int):PC0 140 [.agg [.J k,.J n]] (.t (abl (vOk ⟨k,n⟩))):=by
 refine ae (aM f140) aB func140 fun g F hg hF=> ?_
 cbv
 repeat'(first|(refine bN hg (bD _ _ _) rfl (fun R0 ha=> ?_);cases R0<;>cbv)|(split<;>rename_i hh<;>(try rw [hh])<;>(try simp only [ew hg]at hh)<;>cbv))
 all_goals exact aY hF (by(try simp only [bA hg]);simp only [vOk];grind)
theorem jr(k n:Int):PC0 64 [.agg [.J k,.J n]] (.t (abl (zOk ⟨k,n⟩))):=by
 refine ae (aM f64) aB func64 fun g F hg hF=> ?_
 cbv
 repeat'(first|(refine bN hg (eO _ _) rfl (fun R0 ha=> ?_);cases R0<;>cbv)|(split<;>rename_i hh<;>(try rw [hh])<;>(try simp only [ew hg]at hh)<;>cbv))
 all_goals exact aY hF (by(try simp only [iP hg]);simp only [zOk];grind)
theorem qd(k n:Int):PC0 96 [.agg [.J k,.J n]] (.t (abl (zOk ⟨k,n⟩))):=by
 refine ae (aM f96) aB func96 fun g F hg hF=> ?_
 cbv
 repeat'(first|(refine bN hg (e9 _ _) rfl (fun R0 ha=> ?_);cases R0<;>cbv)|(split<;>rename_i hh<;>(try rw [hh])<;>(try simp only [ew hg]at hh)<;>cbv))
 all_goals exact aY hF (by(try simp only [iP hg]);simp only [zOk];grind)
theorem eU(s:bM):PC0 65 [.agg (lc (bM.c s))] (.t (abl (zb s))):=by
 obtain⟨⟨a0,a1⟩,⟨a2,a3⟩,⟨a4,a5⟩,⟨a6,a7⟩,⟨a8,a9⟩,⟨hb,hc⟩⟩:=s
 refine ae (aM f65) aB func65 fun g F hg hF=> ?_
 cbv
 repeat'(first|(refine bN hg (eO _ _) rfl (fun R0 ha=> ?_);cases R0<;>cbv)|(split<;>rename_i hh<;>(try rw [hh])<;>(try simp only [ew hg]at hh)<;>cbv))
 all_goals exact aY hF (by simp only [zb];simp_all)
theorem fc(s:bM):PC0 97 [.agg (lc (bM.c s))] (.t (abl (zb s))):=by
 obtain⟨⟨a0,a1⟩,⟨a2,a3⟩,⟨a4,a5⟩,⟨a6,a7⟩,⟨a8,a9⟩,⟨hb,hc⟩⟩:=s
 refine ae (aM f97) aB func97 fun g F hg hF=> ?_
 cbv
 repeat'(first|(refine bN hg (e9 _ _) rfl (fun R0 ha=> ?_);cases R0<;>cbv)|(split<;>rename_i hh<;>(try rw [hh])<;>(try simp only [ew hg]at hh)<;>cbv))
 all_goals exact aY hF (by simp only [zb];simp_all)
theorem eV(s:dI):PC0 66 [.agg (lc (dI.c s))] (.t (abl (zC s))):=by
 obtain⟨a0,a1,a2,a3⟩:=s
 refine ae (aM f66) aB func66 fun g F hg hF=> ?_
 cbv
 repeat'(first|(refine bN hg (bm _ _ _) rfl (fun R0 ha=> ?_);cases R0<;>cbv)|(split<;>rename_i hh<;>(try rw [hh])<;>(try simp only [ew hg]at hh)<;>cbv))
 all_goals exact aY hF (by simp only [zC];simp_all)
theorem fd(s:dI):PC0 98 [.agg (lc (dI.c s))] (.t (abl (zC s))):=by
 obtain⟨a0,a1,a2,a3⟩:=s
 refine ae (aM f98) aB func98 fun g F hg hF=> ?_
 cbv
 repeat'(first|(refine bN hg (bD _ _ _) rfl (fun R0 ha=> ?_);cases R0<;>cbv)|(split<;>rename_i hh<;>(try rw [hh])<;>(try simp only [ew hg]at hh)<;>cbv))
 all_goals exact aY hF (by simp only [zC];simp_all)
theorem jt(s:ah):PC0 35 [.agg (lc (ah.c s))] (.t (abl (vJ s))):=by
 obtain⟨a0,a1,a2,a3,a4,a5,a6,a7,a8,a9,hK,⟨hL,hM⟩,⟨hN,hO⟩,⟨hP,hQ⟩,⟨hR,hS⟩,⟨hT,hU⟩,⟨hV,hW⟩,⟨hX,hY⟩,hZ,⟨⟨hb,hc⟩,⟨hd,he⟩,⟨hf,hi⟩,⟨hj,hk⟩,⟨hl,hm⟩,⟨hn,ho⟩⟩,⟨⟨hp,hq⟩,⟨hr,hs⟩,⟨ht,hu⟩,⟨hv,hw⟩,⟨hx,hy⟩,⟨hz,hA⟩⟩,⟨hB,hC,hD,hE⟩,⟨hG,hH,hI,hJ⟩,h0,h1⟩:=s
 refine ae (aM f35) aB func35 fun g F hg hF=> ?_
 cbv
 repeat'(first|(refine bN hg (bm _ _ _) rfl (fun R0 ha=> ?_);cases R0<;>cbv)|(refine bN hg (jr _ _) rfl (fun R0 ha=> ?_);cases R0<;>cbv)|(refine bN hg (eU (⟨⟨hb,hc⟩,⟨hd,he⟩,⟨hf,hi⟩,⟨hj,hk⟩,⟨hl,hm⟩,⟨hn,ho⟩⟩:bM)) rfl (fun R0 ha=> ?_);cases R0<;>cbv)|(refine bN hg (eU (⟨⟨hp,hq⟩,⟨hr,hs⟩,⟨ht,hu⟩,⟨hv,hw⟩,⟨hx,hy⟩,⟨hz,hA⟩⟩:bM)) rfl (fun R0 ha=> ?_);cases R0<;>cbv)|(refine bN hg (eV (⟨hB,hC,hD,hE⟩:dI)) rfl (fun R0 ha=> ?_);cases R0<;>cbv)|(refine bN hg (eV (⟨hG,hH,hI,hJ⟩:dI)) rfl (fun R0 ha=> ?_);cases R0<;>cbv)|(split<;>rename_i hh<;>(try rw [hh])<;>(try simp only [ew hg]at hh)<;>cbv))
 all_goals exact aY hF (by clear hF;simp only [vJ,stN,stV,zqD,List.all_nil];simp_all)
theorem Aq{a b z:Int}(h:a=b)(hz:z<a):z<b:=h▸hz
variable {z M:Int}
theorem Da{xs:List jR}(hM:M=(xs.length:Int))(hz:M<=z)(h:∀(i:Nat)(v:jR),i<z.toNat->xs[i]? =some v->zOk v=true):xs.all zOk=true:=by
 rw [zqf]
 exact qB hM hz h
theorem Db{xs:List jR}{i:Nat}{v:jR}(h:xs[i]? =some v)(hv:zOk v=false):xs.all zOk=false:=by
 rw [List.all_eq_false]
 exact⟨v,zqd h,by rw [hv];decide⟩
theorem od(s:ah):PC0 67 [.agg (lc (ah.c s))] (.t (abl (vJ s))):=by
 obtain⟨W,hW⟩:=nmE (stV s)
 have xg:(7:Int)=(W.length:Int):=by rw [hW];rfl
 obtain⟨V,hV⟩:=nmE (vw jR.c W)
 have kV:=kmV (k:=2) hV fun _=>rfl
 have pV:=pmV hV
 have xf:aC V=7:=by rw [ar,hV,ao,<-xg]
 obtain⟨a0,a1,a2,a3,a4,a5,a6,a7,a8,a9,xb,⟨hS,hT⟩,⟨hU,hX⟩,⟨hY,hZ⟩,⟨h3,h4⟩,⟨h5,h6⟩,⟨h7,h8⟩,⟨h9,xa⟩,xc,⟨⟨hb,hd⟩,⟨he,hf⟩,⟨hh,hk⟩,⟨hl,hm⟩,⟨hn,ho⟩,⟨hp,hq⟩⟩,⟨⟨hr,ht⟩,⟨hu,hw⟩,⟨hy,hz⟩,⟨hA,hC⟩,⟨hD,hE⟩,⟨hG,hH⟩⟩,⟨hI,hJ,hK,hL⟩,⟨hM,hO,hP,hQ⟩,xd,xe⟩:=s
 have xj:V=[[.J hS,.J hT],[.J hU,.J hX],[.J hY,.J hZ],[.J h3,.J h4],[.J h5,.J h6],[.J h7,.J h8],[.J h9,.J xa]]:=by rw [hV,hW];rfl
 refine ae (aM f67) aB func67 fun g F hg hF=> ?_
 cbv
 repeat'(first|(refine bN hg (bD _ _ _) rfl (fun R0 ha=> ?_);cases R0<;>cbv))
 all_goals(try exact aY hF (by clear hF;simp only [vJ,stN];simp_all))
 have hN:stN ⟨a0,a1,a2,a3,a4,a5,a6,a7,a8,a9,xb,⟨hS,hT⟩,⟨hU,hX⟩,⟨hY,hZ⟩,⟨h3,h4⟩,⟨h5,h6⟩,⟨h7,h8⟩,⟨h9,xa⟩,xc,⟨⟨hb,hd⟩,⟨he,hf⟩,⟨hh,hk⟩,⟨hl,hm⟩,⟨hn,ho⟩,⟨hp,hq⟩⟩,⟨⟨hr,ht⟩,⟨hu,hw⟩,⟨hy,hz⟩,⟨hA,hC⟩,⟨hD,hE⟩,⟨hG,hH⟩⟩,⟨hI,hJ,hK,hL⟩,⟨hM,hO,hP,hQ⟩,xd,xe⟩=true:=by clear hF;simp only [stN];simp_all
 have xh:vJ ⟨a0,a1,a2,a3,a4,a5,a6,a7,a8,a9,xb,⟨hS,hT⟩,⟨hU,hX⟩,⟨hY,hZ⟩,⟨h3,h4⟩,⟨h5,h6⟩,⟨h7,h8⟩,⟨h9,xa⟩,xc,⟨⟨hb,hd⟩,⟨he,hf⟩,⟨hh,hk⟩,⟨hl,hm⟩,⟨hn,ho⟩,⟨hp,hq⟩⟩,⟨⟨hr,ht⟩,⟨hu,hw⟩,⟨hy,hz⟩,⟨hA,hC⟩,⟨hD,hE⟩,⟨hG,hH⟩⟩,⟨hI,hJ,hK,hL⟩,⟨hM,hO,hP,hQ⟩,xd,xe⟩=(W.all zOk&&(zb ⟨⟨hb,hd⟩,⟨he,hf⟩,⟨hh,hk⟩,⟨hl,hm⟩,⟨hn,ho⟩,⟨hp,hq⟩⟩&&(zb ⟨⟨hr,ht⟩,⟨hu,hw⟩,⟨hy,hz⟩,⟨hA,hC⟩,⟨hD,hE⟩,⟨hG,hH⟩⟩&&(zC ⟨hI,hJ,hK,hL⟩&&zC ⟨hM,hO,hP,hQ⟩)))):=by rw [vJ,hN,hW];rfl
 rw [xh]at hF
 clear hN xh
 rw [<-xj]
 refine bV hg aB (by kernel_rfl) (fun z:Int=>[(1,.p 0),(87,.o 1),(88,.i (g .ln V)),(89,.i z)]) (fun _=>[.bx 36 60 (lc (ah.c ⟨a0,a1,a2,a3,a4,a5,a6,a7,a8,a9,xb,⟨hS,hT⟩,⟨hU,hX⟩,⟨hY,hZ⟩,⟨h3,h4⟩,⟨h5,h6⟩,⟨h7,h8⟩,⟨h9,xa⟩,xc,⟨⟨hb,hd⟩,⟨he,hf⟩,⟨hh,hk⟩,⟨hl,hm⟩,⟨hn,ho⟩,⟨hp,hq⟩⟩,⟨⟨hr,ht⟩,⟨hu,hw⟩,⟨hy,hz⟩,⟨hA,hC⟩,⟨hD,hE⟩,⟨hG,hH⟩⟩,⟨hI,hJ,hK,hL⟩,⟨hM,hO,hP,hQ⟩,xd,xe⟩)),.rw ⟨30,2,V⟩]) (fun z=>0<=z/\z<=7/\∀(i:Nat)(v:jR),i<z.toNat->W[i]? =some v->zOk v=true) (fun z=>(7:Int).toNat-z.toNat)
  0 [some 0,some 1] ⟨Int.le_refl 0,by omega,fun i v hi=>by simp at hi⟩ (wkS [0,1] (by decide) ⟨⟨_,rfl,rfl,rfl⟩,⟨_,rfl,rfl,pV⟩,trivial⟩ zr4) (fun z B hs hB=> ?_)
 obtain⟨h0,h1,h2⟩:=hs
 cbv
 cases hc:g .q .lss z (g .ln V)
 ·rw [bF hg,bO hg,xf,zqo]at hc
  have xk:=Da xg (by omega) h2
  cbv
  repeat'(first|(refine bN hg (fc (⟨⟨hb,hd⟩,⟨he,hf⟩,⟨hh,hk⟩,⟨hl,hm⟩,⟨hn,ho⟩,⟨hp,hq⟩⟩:bM)) rfl (fun R0 ha=> ?_);cases R0<;>cbv)|(refine bN hg (fc (⟨⟨hr,ht⟩,⟨hu,hw⟩,⟨hy,hz⟩,⟨hA,hC⟩,⟨hD,hE⟩,⟨hG,hH⟩⟩:bM)) rfl (fun R0 ha=> ?_);cases R0<;>cbv)|(refine bN hg (fd (⟨hI,hJ,hK,hL⟩:dI)) rfl (fun R0 ha=> ?_);cases R0<;>cbv)|(refine bN hg (fd (⟨hM,hO,hP,hQ⟩:dI)) rfl (fun R0 ha=> ?_);cases R0<;>cbv))
  all_goals exact aY hF (by clear hF;simp_all)
 ·rw [bF hg,bO hg,xf,zqp]at hc
  cbv
  obtain⟨x,hx⟩:=ub (xs:=W) h0 (Aq xg hc)
  have xi:V[z.toNat]? =some (lc (jR.c x)):=by rw [hV];exact bv hx
  obtain⟨j,hj⟩:=nmE z.toNat
  obtain⟨x0,x1⟩:=x
  refine En hg h0 hj (Ar h0 (by rw [xf];exact hc) hj) ?_
  cbv
  rw [<-hj]at xi
  refine⟨_,xi,?_⟩
  cbv
  refine bN hg (qd x0 x1) rfl (fun R hR=> ?_)
  cases R
  ·cbv
   exact aY hF (by rw [Db hx hR.symm];rfl)
  ·cbv
   have e1:g .w .add .i64 z 1=z+1:=by rw [aJ hg,az _ (by omega)]
   rw [e1]
   refine gA hB (z+1) [some 0,some 1] (wkS [0,1] (by decide) ⟨⟨_,rfl,rfl,rfl⟩,⟨_,rfl,rfl,pV⟩,trivial⟩ zr4) ⟨by omega,by omega,fun i v hi hv=> ?_⟩ (by omega)
   by_cases hi2:i<z.toNat
   ·exact h2 i v hi2 hv
   ·rw [show i=z.toNat by omega,hx]at hv
    cases hv
    exact hR.symm
def pI(r:aK):Bool:=rng r.room (-1) 1048576&&(rng r.wide 0 1048576&&rng r.high 0 1048576)
def z7(rs:List aK):Bool:=rng (rs.length:Int) 1 6&&rs.all pI
theorem Cc{xs:List aK}(hM:M=(xs.length:Int))(hz:M<=z)(h:∀(i:Nat)(v:aK),i<z.toNat->xs[i]? =some v->pI v=true):xs.all pI=true:=by
 rw [zqf]
 exact qB hM hz h
theorem Ce{xs:List aK}{i:Nat}{v:aK}(h:xs[i]? =some v)(hv:pI v=false):xs.all pI=false:=by
 rw [List.all_eq_false]
 exact⟨v,zqd h,by rw [hv];decide⟩
def isN(ns:List af)(n:Int):Bool:=rng n 1 (ns.length:Int)
def upN(ns:List af)(n:Int):Int:=match ns[(n-1).toNat]? with|some x=>x.up|none=>0
def mi(ns:List af):Nat->Int->Int->Int
 |0,k,n=>if n=0 then k else 0
 |f+1,k,n=>if n=0 then k else if isN ns n=true then mi ns f (k+1) (upN ns n)else 0
def jn(ns:List af)(n:Int):Int:=mi ns ns.length 0 n
theorem gO(ns:List af)(f:Nat)(k:Int):mi ns f k 0=k:=by cases f<;>simp [mi]
theorem nz(ns:List af)(f:Nat)(k n:Int)(h0:n≠0)(h:isN ns n=false):mi ns f k n=0:=by cases f<;>simp [mi,h0,h]
theorem fg(ns:List af){f:Nat}{k n:Int}(h0:n≠0)(h:isN ns n=true):mi ns (f+1) k n=mi ns f (k+1) (upN ns n):=by simp [mi,h0,h]
theorem qu(ns:List af){k n:Int}(h0:n≠0):mi ns 0 k n=0:=by simp [mi,h0]
variable {ns:List af}{n:Int}
theorem aI(h:isN ns n=true):1<=n/\n<=(ns.length:Int)/\∃x,ns[(n-1).toNat]? =some x:=by
 simp only [isN,rng,zqs,zqp]at h
 exact⟨h.1,h.2,ns[(n-1).toNat]'(by omega),zqc _⟩
theorem lx{x:af}(h:ns[(n-1).toNat]? =some x):upN ns n=x.up:=by unfold upN;rw [h]
theorem tW{M d:Int}{L:Nat}(hM:M=(L:Int))(h0:0<=d)(h1:d<M):L-d.toNat=(L-(d+1).toNat)+1:=by omega
theorem rE{M d:Int}{L:Nat}(hM:M=(L:Int))(h:d=M):L-d.toNat=0:=by omega
def cnt(xs:List Int)(n:Int):Int:=(xs.map fun k=>if k=n then 1 else 0).sum
theorem dz(V:LLA)(n:Int):PC0 36 [.agg [.view V],ai n] (.t (abl (rng n 1 (aC V)))):=by
 refine ae (aM f36) aB func36 fun g F hg hF=> ?_
 cbv
 repeat'(first|(refine bN hg (bm _ _ _) rfl (fun R0 ha=> ?_);cases R0<;>cbv))
 all_goals exact aY hF (by rw [ha,bO hg])
theorem fE(V:LLA)(n:Int):PC0 41 [.agg [.view V],ai n] (.t (abl (rng n 1 (aC V)))):=by
 refine ae (aM f41) aB func41 fun g F hg hF=> ?_
 cbv
 repeat'(first|(refine bN hg (bD _ _ _) rfl (fun R0 ha=> ?_);cases R0<;>cbv))
 all_goals exact aY hF (by rw [ha,bO hg])
theorem bz(V:LLA)(n:Int)(h1:1<=n)(h2:n<=1048576){a0:Int}{Va1:LLA}{a2:Int}{a3:Int}{a4:Int}{a5:Int}{a6:Int}{a7:Int}{a8:Bool}{a9:Bool}{a10:Int}{a11:Int}{a12:Int}{a13:Int}{a14:Int}{a15:Int}{a16:Int}{a17:Int}{a18:Int}{a19:Int}{a20:Int}{a21:Int}{a22:Int}{a23:Int}{a24:Int}{a25:Int}{a26:Int}{a27:Int}{a28:Int}{a29:Int}{a30:Int}{a31:Int}{a32:Int}{a33:Int}{a34:Int}{a35:Int}{a36:Int}{a37:Int}{a38:Int}{a39:Int}{a40:Int}{a41:Int}{a42:Int}{a43:Int}{a44:Int}{a45:Int}{a46:Int}{a47:Int}{a48:Int}{a49:Int}{a50:Int}{a51:Int}{a52:Int}{a53:Int}{a54:Int}{a55:Int}{a56:Int}{a57:Int}{a58:Int}{a59:Int}{a60:Int}{a61:Int}{a62:Bool}{Va63:LLA}(hy:V[(n-1).toNat]? =some [.J a0,.view Va1,.J a2,.J a3,.J a4,.J a5,.J a6,.J a7,.B a8,.B a9,.J a10,.J a11,.J a12,.J a13,.J a14,.J a15,.J a16,.J a17,.J a18,.J a19,.J a20,.J a21,.J a22,.J a23,.J a24,.J a25,.J a26,.J a27,.J a28,.J a29,.J a30,.J a31,.J a32,.J a33,.J a34,.J a35,.J a36,.J a37,.J a38,.J a39,.J a40,.J a41,.J a42,.J a43,.J a44,.J a45,.J a46,.J a47,.J a48,.J a49,.J a50,.J a51,.J a52,.J a53,.J a54,.J a55,.J a56,.J a57,.J a58,.J a59,.J a60,.J a61,.B a62,.view Va63]):PC0 38 [.agg [.view V],ai n] (.t (.agg [.J a0,.view Va1,.J a2,.J a3,.J a4,.J a5,.J a6,.J a7,.B a8,.B a9,.J a10,.J a11,.J a12,.J a13,.J a14,.J a15,.J a16,.J a17,.J a18,.J a19,.J a20,.J a21,.J a22,.J a23,.J a24,.J a25,.J a26,.J a27,.J a28,.J a29,.J a30,.J a31,.J a32,.J a33,.J a34,.J a35,.J a36,.J a37,.J a38,.J a39,.J a40,.J a41,.J a42,.J a43,.J a44,.J a45,.J a46,.J a47,.J a48,.J a49,.J a50,.J a51,.J a52,.J a53,.J a54,.J a55,.J a56,.J a57,.J a58,.J a59,.J a60,.J a61,.B a62,.view Va63])):=by
 obtain⟨m,hm⟩:=nmE (n-1)
 rw [<-hm]at hy
 refine ae (aM f38) aB func38 fun g F hg hF=> ?_
 cbv
 have e1:g .w .sub .i64 n 1=m:=by rw [dP hg,az _ (by omega),hm]
 rw [e1]
 refine goX hg _ (by omega) hy rfl ?_
 cbv
 exact mh hF rfl ⟨rfl,rfl⟩
theorem d4(V:LLA)(n:Int)(h1:1<=n)(h2:n<=1048576){a0:Int}{Va1:LLA}{a2:Int}{a3:Int}{a4:Int}{a5:Int}{a6:Int}{a7:Int}{a8:Bool}{a9:Bool}{a10:Int}{a11:Int}{a12:Int}{a13:Int}{a14:Int}{a15:Int}{a16:Int}{a17:Int}{a18:Int}{a19:Int}{a20:Int}{a21:Int}{a22:Int}{a23:Int}{a24:Int}{a25:Int}{a26:Int}{a27:Int}{a28:Int}{a29:Int}{a30:Int}{a31:Int}{a32:Int}{a33:Int}{a34:Int}{a35:Int}{a36:Int}{a37:Int}{a38:Int}{a39:Int}{a40:Int}{a41:Int}{a42:Int}{a43:Int}{a44:Int}{a45:Int}{a46:Int}{a47:Int}{a48:Int}{a49:Int}{a50:Int}{a51:Int}{a52:Int}{a53:Int}{a54:Int}{a55:Int}{a56:Int}{a57:Int}{a58:Int}{a59:Int}{a60:Int}{a61:Int}{a62:Bool}{Va63:LLA}(hy:V[(n-1).toNat]? =some [.J a0,.view Va1,.J a2,.J a3,.J a4,.J a5,.J a6,.J a7,.B a8,.B a9,.J a10,.J a11,.J a12,.J a13,.J a14,.J a15,.J a16,.J a17,.J a18,.J a19,.J a20,.J a21,.J a22,.J a23,.J a24,.J a25,.J a26,.J a27,.J a28,.J a29,.J a30,.J a31,.J a32,.J a33,.J a34,.J a35,.J a36,.J a37,.J a38,.J a39,.J a40,.J a41,.J a42,.J a43,.J a44,.J a45,.J a46,.J a47,.J a48,.J a49,.J a50,.J a51,.J a52,.J a53,.J a54,.J a55,.J a56,.J a57,.J a58,.J a59,.J a60,.J a61,.B a62,.view Va63]):PC0 44 [.agg [.view V],ai n] (.t (.agg [.J a0,.view Va1,.J a2,.J a3,.J a4,.J a5,.J a6,.J a7,.B a8,.B a9,.J a10,.J a11,.J a12,.J a13,.J a14,.J a15,.J a16,.J a17,.J a18,.J a19,.J a20,.J a21,.J a22,.J a23,.J a24,.J a25,.J a26,.J a27,.J a28,.J a29,.J a30,.J a31,.J a32,.J a33,.J a34,.J a35,.J a36,.J a37,.J a38,.J a39,.J a40,.J a41,.J a42,.J a43,.J a44,.J a45,.J a46,.J a47,.J a48,.J a49,.J a50,.J a51,.J a52,.J a53,.J a54,.J a55,.J a56,.J a57,.J a58,.J a59,.J a60,.J a61,.B a62,.view Va63])):=by
 obtain⟨m,hm⟩:=nmE (n-1)
 rw [<-hm]at hy
 refine ae (aM f44) aB func44 fun g F hg hF=> ?_
 cbv
 have e1:g .w .sub .i64 n 1=m:=by rw [dP hg,az _ (by omega),hm]
 rw [e1]
 refine goX hg _ (by omega) hy rfl ?_
 cbv
 exact mh hF rfl ⟨rfl,rfl⟩
theorem nS(rs:List aK)(hl:rs.length<=1048576):PC0 63 [.agg [.view (vw aK.c rs)]] (.t (abl (z7 rs))):=by
 obtain⟨V,hV⟩:=nmE (vw aK.c rs)
 have hn:=lmV hV
 have iV:=imV hV
 have kV:=kmV (k:=3) hV fun _=>rfl
 have dV:=dmV hV
 have hd:aC V=(rs.length:Int):=by rw [ar];omega
 have hf:0<=aC V:=by omega
 have hm:aC V<=1048576:=by omega
 have hj:z7 rs=(rng (aC V) 1 6&&rs.all pI):=by rw [hd];rfl
 rw [<-hV,hj]
 refine ae (aM f63) aB func63 fun g F hg hF=> ?_
 cbv
 refine bV hg aB (by kernel_rfl) (fun z:Int=>[(1,.p 0),(3,.i z)]) (fun _=>[.bx 67 1 [.view V]]) (fun z=>0<=z/\z<=aC V/\∀(i:Nat)(v:aK),i<z.toNat->rs[i]? =some v->pI v=true) (fun z=>(aC V).toNat-z.toNat)
  0 [some 0] ⟨Int.le_refl 0,hf,fun i v hi=>by simp at hi⟩ (wkS [0] (by decide) ⟨⟨_,rfl,rfl,rfl⟩,trivial⟩ zr2) (fun z B hs hB=> ?_)
 obtain⟨h0,h1,h2⟩:=hs
 cbv
 cases hc:g .q .lss z (g .ln V)
 ·rw [bF hg,bO hg,zqo]at hc
  have he:=Cc hd (by omega) h2
  cbv
  repeat'(first|(refine bN hg (bm _ _ _) rfl (fun R0 hb=> ?_);cases R0<;>cbv))
  all_goals exact aY hF (by rw [hb,bO hg,he,Bool.and_true])
 ·rw [bF hg,bO hg,zqp]at hc
  cbv
  obtain⟨x,hx⟩:=ub (xs:=rs) h0 (gc hd hc)
  have hk:V[z.toNat]? =some (lc (aK.c x)):=by rw [hV];exact bv hx
  obtain⟨x0,x1,x2⟩:=x
  refine goX hg _ h0 hk rfl ?_
  cbv
  have ha:pI ⟨x0,x1,x2⟩=false->(rng (aC V) 1 6&&rs.all pI)=false:=fun h=>by rw [Ce hx h,Bool.and_false]
  have e1:g .w .add .i64 z 1=z+1:=by rw [aJ hg,az _ (by omega)]
  repeat'(first|(refine bN hg (bm _ _ _) rfl (fun R0 hb=> ?_);cases R0<;>cbv))
  all_goals first
   |exact aY hF (ha (by simp only [pI];clear hF;simp_all)).symm
   |skip
  have hh:pI ⟨x0,x1,x2⟩=true:=by simp only [pI];clear hF hB;simp_all
  rw [e1]
  refine gA hB (z+1) [some 0] (wkS [0] (by decide) ⟨⟨_,rfl,rfl,rfl⟩,trivial⟩ zr2) ⟨by omega,by omega,fun i v hi hv=> ?_⟩ (by omega)
  by_cases hi2:i<z.toNat
  ·exact h2 i v hi2 hv
  ·rw [show i=z.toNat by omega,hx]at hv
   cases hv
   exact hh
theorem oc(rs:List aK)(hl:rs.length<=1048576):PC0 70 [.agg [.view (vw aK.c rs)]] (.t (abl (z7 rs))):=by
 obtain⟨V,hV⟩:=nmE (vw aK.c rs)
 have hn:=lmV hV
 have iV:=imV hV
 have kV:=kmV (k:=3) hV fun _=>rfl
 have dV:=dmV hV
 have hb:aC V=(rs.length:Int):=by rw [ar];omega
 have hf:0<=aC V:=by omega
 have hm:aC V<=1048576:=by omega
 have hj:z7 rs=(rng (aC V) 1 6&&rs.all pI):=by rw [hb];rfl
 rw [<-hV,hj]
 refine ae (aM f70) aB func70 fun g F hg hF=> ?_
 cbv
 have cr:=bD (g .ln V) 1 6
 rw [bO hg]at cr
 obtain⟨Q,hQ⟩:=nmE (rng (aC V) 1 6)
 rw [<-hQ]at cr hF
 rw [bO hg]
 (first|refine ad hg cr ?_|refine aa hg cr ?_)
 cases Q
 case false=>
  cbv
  exact aY hF rfl
 cbv
 refine bV hg aB (by kernel_rfl) (fun z:Int=>[(1,.p 0),(11,.v V),(12,.i (g .ln V)),(13,.i z)]) (fun _=>[.bx 67 1 [.view V]]) (fun z=>0<=z/\z<=aC V/\∀(i:Nat)(v:aK),i<z.toNat->rs[i]? =some v->pI v=true) (fun z=>(aC V).toNat-z.toNat)
  0 [some 0] ⟨Int.le_refl 0,hf,fun i v hi=>by simp at hi⟩ (wkS [0] (by decide) ⟨⟨_,rfl,rfl,rfl⟩,trivial⟩ zr4) (fun z B hs hB=> ?_)
 obtain⟨h0,h1,h2⟩:=hs
 cbv
 cases hc:g .q .lss z (g .ln V)
 ·rw [bF hg,bO hg,zqo]at hc
  have hd:=Cc hb (by omega) h2
  cbv
  exact aY hF (by rw [hd];rfl)
 ·rw [bF hg,bO hg,zqp]at hc
  cbv
  obtain⟨x,hx⟩:=ub (xs:=rs) h0 (gc hb hc)
  have hk:V[z.toNat]? =some (lc (aK.c x)):=by rw [hV];exact bv hx
  obtain⟨x0,x1,x2⟩:=x
  refine goX hg _ h0 hk rfl ?_
  cbv
  have ha:pI ⟨x0,x1,x2⟩=false->(true&&rs.all pI)=false:=fun h=>by rw [Ce hx h,Bool.and_false]
  have e1:g .w .add .i64 z 1=z+1:=by rw [aJ hg,az _ (by omega)]
  repeat'(first|(refine bN hg (bD _ _ _) rfl (fun R0 he=> ?_);cases R0<;>cbv))
  all_goals first
   |exact aY hF (ha (by simp only [pI];clear hF;simp_all)).symm
   |skip
  have hh:pI ⟨x0,x1,x2⟩=true:=by simp only [pI];clear hF hB;simp_all
  rw [e1]
  refine gA hB (z+1) [some 0] (wkS [0] (by decide) ⟨⟨_,rfl,rfl,rfl⟩,trivial⟩ zr4) ⟨by omega,by omega,fun i v hi hv=> ?_⟩ (by omega)
  by_cases hi2:i<z.toNat
  ·exact h2 i v hi2 hv
  ·rw [show i=z.toNat by omega,hx]at hv
   cases hv
   exact hh
theorem po(xs:List Int)(n:Int)(hl:xs.length<=1048576):PC0 48 [.c (.view (vw ak xs)),ai n] (.i (cnt xs n)):=by
 obtain⟨V,hV⟩:=nmE (vw ak xs)
 have hj:=lmV hV
 have iV:=imV hV
 have kV:=kmV (k:=1) hV fun _=>rfl
 have dV:=dmV hV
 have hf:aC V=(xs.length:Int):=by rw [ar];omega
 have hd:0<=aC V:=by omega
 have hi:aC V<=1048576:=by omega
 have ha:∀z:Int,aC V<=z->uz (fun k=>if k=n then 1 else 0) xs z.toNat=cnt xs n:=fun z hz=>l9 _ (by omega)
 rw [<-hV]
 refine ae (aM f48) aB func48 fun g F hg hF=> ?_
 cbv
 refine bV hg aB (by kernel_rfl) (fun s:Int×Int=>[(0,.v V),(1,.i n),(5,.i s.2),(6,.i s.1)]) (fun _=>[]) (fun s=>0<=s.1/\s.1<=aC V/\0<=s.2/\s.2<=s.1/\s.2=uz (fun k=>if k=n then 1 else 0) xs s.1.toNat) (fun s=>(aC V).toNat-s.1.toNat)
  (0,0) [] ⟨Int.le_refl 0,hd,Int.le_refl 0,Int.le_refl 0,(j7 _ _).symm⟩ (wk0 zr4) (fun s B hs hB=> ?_)
 obtain⟨z,d⟩:=s
 obtain⟨h0,h1,h2,h3,h4⟩:=hs
 simp only at h0 h1 h2 h3 h4
 cbv
 cases hc:g .q .lss z (g .ln V)
 ·rw [bF hg,bO hg,zqo]at hc
  cbv
  exact bj hF (by rw [h4,ha z (by omega)])
 ·rw [bF hg,bO hg,zqp]at hc
  cbv
  obtain⟨x,hx⟩:=ub (xs:=xs) h0 (gc hf hc)
  have hh:V[z.toNat]? =some (lc (ak x)):=by rw [hV];exact bv hx
  have hs:=j8 (fun k:Int=>if k=n then(1:Int)else 0) hx
  refine goX hg _ h0 hh rfl ?_
  cbv
  have e1:g .w .add .i64 z 1=z+1:=by rw [aJ hg,az _ (by omega)]
  cases he:g .q .eql x n
  ·have hb:x≠n:=by rw [bA hg]at he;simpa using he
   simp only [if_neg hb]at hs
   cbv
   rw [e1]
   exact gA hB (z+1,d) [] (wk0 zr4) ⟨by simp only;omega,by simp only;omega,h2,by simp only;omega,by simp only;rw [show(z+1).toNat=z.toNat+1 by omega,hs];omega⟩ (by show(aC V).toNat-(z+1).toNat<(aC V).toNat-z.toNat;omega)
  ·have hb:x=n:=by rw [bA hg]at he;simpa using he
   simp only [if_pos hb]at hs
   cbv
   have e2:g .w .add .i64 d 1=d+1:=by rw [aJ hg,az _ (by omega)]
   rw [e1,e2]
   exact gA hB (z+1,d+1) [] (wk0 zr4) ⟨by simp only;omega,by simp only;omega,by simp only;omega,by simp only;omega,by simp only;rw [show(z+1).toNat=z.toNat+1 by omega,hs];omega⟩ (by show(aC V).toNat-(z+1).toNat<(aC V).toNat-z.toNat;omega)
theorem om(ns:List af)(n0:Int)(hl:ns.length<=1048576):PC0 69 [.agg [.view (vwA af.ac ns)],ai n0] (.i (jn ns n0)):=by
 obtain⟨V,hV⟩:=nmE (vwA af.ac ns)
 have hc:aC V=(ns.length:Int):=by rw [ar,hV,bi]
 have xq:0<=aC V:=by omega
 have xr:aC V<=1048576:=by omega
 have hh:∀n,isN ns n=rng n 1 (aC V):=fun n=>by rw [hc];rfl
 have xu:∀d:Int,0<=d->d<aC V->ns.length-d.toNat=(ns.length-(d+1).toNat)+1:=fun d h0 h1=>tW hc h0 h1
 have xt:∀d:Int,d=aC V->ns.length-d.toNat=0:=fun d h=>rE hc h
 have hm:mi ns (ns.length-(0:Int).toNat) 0 n0=jn ns n0:=rfl
 obtain⟨R,hR⟩:=nmE (jn ns n0)
 rw [<-hR]at hm⊢
 rw [<-hV]
 refine ae (aM f69) aB func69 fun g F hg hF=> ?_
 cbv
 refine bV hg aB (by kernel_rfl) (fun s:Int×Int=>[(1,.i s.1),(2,.p 0),(5,.i s.2)]) (fun _=>[.bx 28 1 [.view V]]) (fun s=>0<=s.2/\s.2<=aC V/\mi ns (ns.length-s.2.toNat) s.2 s.1=R) (fun s=>(aC V).toNat-s.2.toNat)
  (n0,0) [some 0] ⟨Int.le_refl 0,xq,hm⟩ (wkS [0] (by decide) ⟨⟨_,rfl,rfl,rfl⟩,trivial⟩ zr3) (fun s B hs hB=> ?_)
 obtain⟨n,d⟩:=s
 obtain⟨h0,h1,h2⟩:=hs
 simp only at h0 h1 h2
 cbv
 cases hn:g .q .neq n 0
 ·have hb:n=0:=by rw [d5 hg]at hn;simpa using hn
  cbv
  exact bj hF (by rw [<-h2,hb,gO])
 have hb:n≠0:=by rw [d5 hg]at hn;simpa using hn
 cbv
 have e1:g .w .add .i64 d 1=d+1:=by rw [aJ hg,az _ (by omega)]
 obtain⟨D,hD⟩:=nmE (d+1)
 rw [<-hD]at e1
 rw [e1]
 have ci:=fE V n
 rw [<-hh n]at ci
 cases hi:isN ns n
 ·rw [hi]at ci
  refine ad hg ci ?_
  cbv
  exact bj hF (by rw [<-h2,nz ns _ _ _ hb hi])
 rw [hi]at ci
 refine ad hg ci ?_
 cbv
 cases hd:g .q .gtr D (g .ln V)
 case true=>
  rw [dD hg,bO hg,zqp]at hd
  cbv
  exact bj hF (by rw [<-h2,xt d (by omega),qu ns hb])
 rw [dD hg,bO hg,zqo]at hd
 have xw:d<aC V:=by omega
 have xs:=xu d h0 xw
 obtain⟨i1,i2,x,hx⟩:=aI hi
 have xv:n<=1048576:=Int.le_trans (hc▸i2) xr
 have he:V[(n-1).toNat]? =some x.ac:=by rw [hV];exact fy hx
 have xx:=lx hx
 have hj:mi ns (ns.length-D.toNat) D x.up=R:=by rw [<-h2,xs,fg ns hb hi,xx,hD]
 obtain⟨a0,a1,⟨a2,a3,a4,a5,a6,a7,a8,a9,hp,hq,hr,⟨ht,hu⟩,⟨hv,hw⟩,⟨hy,hz⟩,⟨hA,hC⟩,⟨hE,hG⟩,⟨hH,hI⟩,⟨hJ,hK⟩,hL,⟨⟨hM,hN⟩,⟨hO,hP⟩,⟨hQ,hS⟩,⟨hT,hU⟩,⟨hW,hX⟩,⟨hY,hZ⟩⟩,⟨⟨h3,h4⟩,⟨h5,h6⟩,⟨h7,h8⟩,⟨h9,xa⟩,⟨xb,xc⟩,⟨xd,xe⟩⟩,⟨xf,xg,xh,xi⟩,⟨xj,xk,xl,xm⟩,xn,xo⟩,xp,⟨hk⟩⟩:=x
 replace he:V[(n-1).toNat]? =some [.J a0,.view (vw ak a1),.J a2,.J a3,.J a4,.J a5,.J a6,.J a7,.B a8,.B a9,.J hp,.J hq,.J hr,.J ht,.J hu,.J hv,.J hw,.J hy,.J hz,.J hA,.J hC,.J hE,.J hG,.J hH,.J hI,.J hJ,.J hK,.J hL,.J hM,.J hN,.J hO,.J hP,.J hQ,.J hS,.J hT,.J hU,.J hW,.J hX,.J hY,.J hZ,.J h3,.J h4,.J h5,.J h6,.J h7,.J h8,.J h9,.J xa,.J xb,.J xc,.J xd,.J xe,.J xf,.J xg,.J xh,.J xi,.J xj,.J xk,.J xl,.J xm,.J xn,.J xo,.B xp,.view (vw aK.c hk)]:=he
 obtain⟨xy,hf⟩:=nmE (vw ak a1)
 obtain⟨ho,ha⟩:=nmE (vw aK.c hk)
 rw [<-hf,<-ha]at he
 cbv
 refine ad hg (d4 V n i1 xv he) ?_
 cbv
 exact gA hB (a0,D) [some 0] (wkS [0] (by decide) ⟨⟨_,rfl,rfl,rfl⟩,trivial⟩ zr3) ⟨by simp only;omega,by simp only;omega,hj⟩ (by show(aC V).toNat-D.toNat<(aC V).toNat-d.toNat;omega)
theorem nU(ns:List af)(n0:Int)(hl:ns.length<=1048576):PC0 62 [.agg [.view (vwA af.ac ns)],ai n0] (.i (jn ns n0)):=by
 obtain⟨V,hV⟩:=nmE (vwA af.ac ns)
 have hc:aC V=(ns.length:Int):=by rw [ar,hV,bi]
 have xz:0<=aC V:=by omega
 have xs:aC V<=1048576:=by omega
 have hk:∀n,isN ns n=rng n 1 (aC V):=fun n=>by rw [hc];rfl
 have xu:∀d:Int,0<=d->d<aC V->ns.length-d.toNat=(ns.length-(d+1).toNat)+1:=fun d h0 h1=>tW hc h0 h1
 have xt:∀d:Int,d=aC V->ns.length-d.toNat=0:=fun d h=>rE hc h
 have hq:mi ns (ns.length-(0:Int).toNat) 0 n0=jn ns n0:=rfl
 obtain⟨R,hR⟩:=nmE (jn ns n0)
 rw [<-hR]at hq⊢
 rw [<-hV]
 refine ae (aM f62) aB func62 fun g F hg hF=> ?_
 cbv
 refine bV hg aB (by kernel_rfl) (fun s:Int×Int=>[(1,.i s.1),(2,.p 0),(5,.i s.2)]) (fun _=>[.bx 28 1 [.view V]]) (fun s=>0<=s.2/\s.2<=aC V+1/\(s.2<=aC V->mi ns (ns.length-s.2.toNat) s.2 s.1=R)/\(s.2=aC V+1->R=0)) (fun s=>(aC V+1).toNat-s.2.toNat)
  (n0,0) [some 0] ⟨Int.le_refl 0,by simp only;omega,fun _=>hq,fun h=>by simp only at h;omega⟩ (wkS [0] (by decide) ⟨⟨_,rfl,rfl,rfl⟩,trivial⟩ zr3) (fun s B hs hB=> ?_)
 obtain⟨n,d⟩:=s
 obtain⟨h0,h1,h2,hh⟩:=hs
 simp only at h0 h1 h2 hh
 cbv
 cases hd:g .q .leq d (g .ln V)
 case false=>
  rw [iO hg,bO hg,zqo]at hd
  cbv
  exact bj hF (hh (by omega)).symm
 rw [iO hg,bO hg,zqp]at hd
 replace h2:=h2 hd
 clear hh
 cbv
 cases hn:g .q .eql n 0
 case true=>
  have hb:n=0:=by rw [bA hg]at hn;simpa using hn
  cbv
  exact bj hF (by rw [<-h2,hb,gO])
 have hb:n≠0:=by rw [bA hg]at hn;simpa using hn
 cbv
 have e1:g .w .add .i64 d 1=d+1:=by rw [aJ hg,az _ (by omega)]
 have ci:=dz V n
 rw [<-hk n]at ci
 cases hi:isN ns n
 ·rw [hi]at ci
  refine ad hg ci ?_
  cbv
  exact bj hF (by rw [<-h2,nz ns _ _ _ hb hi])
 rw [hi]at ci
 refine ad hg ci ?_
 obtain⟨i1,i2,x,hx⟩:=aI hi
 have xv:n<=1048576:=Int.le_trans (hc▸i2) xs
 have hf:V[(n-1).toNat]? =some x.ac:=by rw [hV];exact fy hx
 have xx:=lx hx
 have hm:d<aC V->mi ns (ns.length-(d+1).toNat) (d+1) x.up=R:=fun xw=>by rw [<-h2,xu d h0 xw,fg ns hb hi,xx]
 have ho:d=aC V->R=0:=fun he=>by rw [<-h2,xt d he,qu ns hb]
 obtain⟨a0,a1,⟨a2,a3,a4,a5,a6,a7,a8,a9,ht,hu,hv,⟨hw,hy⟩,⟨hz,hA⟩,⟨hC,hD⟩,⟨hE,hG⟩,⟨hH,hI⟩,⟨hJ,hK⟩,⟨hL,hM⟩,hN,⟨⟨hO,hP⟩,⟨hQ,hS⟩,⟨hT,hU⟩,⟨hW,hX⟩,⟨hY,hZ⟩,⟨h3,h4⟩⟩,⟨⟨h5,h6⟩,⟨h7,h8⟩,⟨h9,xa⟩,⟨xb,xc⟩,⟨xd,xe⟩,⟨xf,xg⟩⟩,⟨xh,xi,xj,xk⟩,⟨xl,xm,xn,xo⟩,xp,xq⟩,xr,⟨hp⟩⟩:=x
 replace hf:V[(n-1).toNat]? =some [.J a0,.view (vw ak a1),.J a2,.J a3,.J a4,.J a5,.J a6,.J a7,.B a8,.B a9,.J ht,.J hu,.J hv,.J hw,.J hy,.J hz,.J hA,.J hC,.J hD,.J hE,.J hG,.J hH,.J hI,.J hJ,.J hK,.J hL,.J hM,.J hN,.J hO,.J hP,.J hQ,.J hS,.J hT,.J hU,.J hW,.J hX,.J hY,.J hZ,.J h3,.J h4,.J h5,.J h6,.J h7,.J h8,.J h9,.J xa,.J xb,.J xc,.J xd,.J xe,.J xf,.J xg,.J xh,.J xi,.J xj,.J xk,.J xl,.J xm,.J xn,.J xo,.J xp,.J xq,.B xr,.view (vw aK.c hp)]:=hf
 obtain⟨xy,hj⟩:=nmE (vw ak a1)
 obtain⟨hr,ha⟩:=nmE (vw aK.c hp)
 rw [<-hj,<-ha]at hf
 cbv
 refine ad hg (bz V n i1 xv hf) ?_
 cbv
 rw [e1]
 exact gA hB (a0,d+1) [some 0] (wkS [0] (by decide) ⟨⟨_,rfl,rfl,rfl⟩,trivial⟩ zr3) ⟨by simp only;omega,by simp only;omega,fun h=>hm (by simp only at h;omega),fun h=>ho (by simp only at h;omega)⟩ (by show(aC V+1).toNat-(d+1).toNat<(aC V+1).toNat-d.toNat;omega)
def fD(ns:List af)(n:Int):List Int:=match ns[(n-1).toNat]? with|some x=>x.kids|none=>[]
def dY(ns:List af)(n:Int)(k:Int):Bool:=isN ns k&&decide (upN ns k=n)
def Dd(x:af):Bool:= !((x.measured&&(!z7 x.table.rules||decide ((0:Int)<(x.kids.length:Int))))||(!x.measured&&decide ((0:Int)<(x.table.rules.length:Int))))
def uk(ns:List af)(n up:Int):Bool:=decide (up=0)||decide (cnt (fD ns up) n=1)
def bP(ns:List af)(n:Int)(x:af):Bool:=vJ x.style&&(rng (jn ns n) 1 4&&(uk ns n x.up&&(x.kids.all (dY ns n)&&Dd x)))
def goT(ns:List af):List af->Int->Bool
 | [],_=>true
 |x::xs,i=>bP ns (i+1) x&&goT ns xs (i+1)
def aV(ns:List af):Bool:=decide ((ns.length:Int)<=12)&&goT ns ns 0
theorem eJ(ns:List af):∀(xs:List af)(k:Int),goT ns xs k=true↔∀(i:Nat)(x:af),xs[i]? =some x->bP ns (k+(i:Int)+1) x=true
 | [],k=>by simp [goT]
 |x::xs,k=>by
  simp only [goT,zqs]
  rw [eJ ns xs (k+1)]
  constructor
  ·rintro⟨h1,h2⟩ i y hy
   cases i with
   |zero=>simp at hy;subst hy;simpa using h1
   |succ i=>have:=h2 i y (by simpa using hy);rw [show k+((i+1:Nat):Int)+1=k+1+(i:Int)+1 by omega];exact this
  ·intro h
   refine⟨by simpa using h 0 x rfl,fun i y hy=> ?_⟩
   have:=h (i+1) y (by simpa using hy)
   rw [show k+((i+1:Nat):Int)+1=k+1+(i:Int)+1 by omega]at this
   exact this
theorem vz{z:Int}{x:af}(h0:0<=z)(hx:ns[z.toNat]? =some x)(h:bP ns (z+1) x=false):aV ns=false:=by
 cases hg:goT ns ns 0
 ·simp [aV,hg]
 ·have:=(eJ ns ns 0).1 hg z.toNat x hx
  rw [show(0:Int)+((z.toNat:Nat):Int)+1=z+1 by omega,h]at this
  cases this
theorem sU(hM:M=(ns.length:Int))(h12:M<=12)(hz:M<=z)(h:∀(i:Nat)(x:af),i<z.toNat->ns[i]? =some x->bP ns ((i:Int)+1) x=true):aV ns=true:=by
 have hg:goT ns ns 0=true:=(eJ ns ns 0).2 fun i x hx=>by
  have hi:=(List.getElem?_eq_some_iff.1 hx).1
  have:=h i x (by omega) hx
  rwa [show(0:Int)+(i:Int)+1=(i:Int)+1 by omega]
 simp only [aV,hg,Bool.and_true,zqp]
 omega
theorem sV{M:Int}(hM:M=(ns.length:Int))(h:¬M<=12):aV ns=false:=by
 simp only [aV,Bool.and_eq_false_iff,zqo]
 left;omega
theorem zD{x:af}(h0:n≠0)(hn:isN ns n=true)(hx:ns[(n-1).toNat]? =some x)(hd:rng (jn ns n) 1 4=true)(hu:x.up≠0):isN ns x.up=true:=by
 cases hi:isN ns x.up
 ·exfalso
  have hl:ns.length≠0:=fun h=>by
   have:=(aI hn).2.1
   have:=(aI hn).1
   omega
  obtain⟨L,hL⟩:∃L,ns.length=L+1:=⟨ns.length-1,by omega⟩
  rw [jn,hL,fg ns h0 hn,lx hx,nz ns _ _ _ hu hi]at hd
  simp [rng]at hd
 ·rfl
variable {xs:List Int}
theorem lg{i:Nat}{k:Int}(h:xs[i]? =some k)(hk:dY ns n k=false):xs.all (dY ns n)=false:=by
 rw [List.all_eq_false]
 exact⟨k,zqd h,by rw [hk];decide⟩
theorem sk(hM:M=(xs.length:Int))(hz:M<=z)(h:∀(i:Nat)(v:Int),i<z.toNat->xs[i]? =some v->dY ns n v=true):xs.all (dY ns n)=true:=by
 rw [zqf]
 exact qB hM hz h
theorem mZ{n:Nat}{a z:Int}(h:a=(n:Int))(hz:z<=(n:Int)):z<=a:=h▸hz
theorem zj(hM:M=(ns.length:Int))(h0:0<=z)(h1:z<M):isN ns (z+1)=true:=by
 simp only [isN,rng,zqs,zqp];omega
theorem C9{z:Int}{x:af}(h:ns[z.toNat]? =some x):ns[(z+1-1).toNat]? =some x:=by rw [show z+1-1=z by omega];exact h
theorem mX{α:Type}{c:α->Array Value}{xs:List α}{V:LLA}(hV:V=vw c xs):aC V=(xs.length:Int):=by rw [hV,ar,ao]
end Go.Proofs.YtckchgoblpgpbaaGreat
