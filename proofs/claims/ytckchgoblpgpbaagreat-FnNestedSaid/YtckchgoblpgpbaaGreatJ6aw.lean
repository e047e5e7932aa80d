/- A child is taken out. -/
import Derived.Test.YtckchgoblpgpbaaGreatJ6av
set_option linter.unusedVariables false
set_option linter.unusedSimpArgs false
set_option maxHeartbeats 16000000
namespace Go.Proofs.YtckchgoblpgpbaaGreat
open Go.ChangeShapes Go.WideShapes Go.ChangeAt Go.RowKit
set_option maxRecDepth 100000
def bT(s:bM)(sd:Int)(rtl:Bool):jR:=
 if sd=1 then s.top else if sd=3 then s.bottom
 else if sd=0 then(if(if rtl then s.fin else s.start).kind≠0 then(if rtl then s.fin else s.start)else s.left)
 else if sd=2 then(if(if rtl then s.start else s.fin).kind≠0 then(if rtl then s.start else s.fin)else s.right)else⟨0,0⟩
theorem qg(s:bM)(sd:Int)(rtl:Bool)(w:World):
  Calls Tryz.prog 196 #[.agg #[.int .i64 s.left.kind,.int .i64 s.left.n,.int .i64 s.top.kind,.int .i64 s.top.n,.int .i64 s.right.kind,.int .i64 s.right.n,.int .i64 s.bottom.kind,.int .i64 s.bottom.n,.int .i64 s.start.kind,.int .i64 s.start.n,.int .i64 s.fin.kind,.int .i64 s.fin.n],.int .i64 sd,.bool rtl] w fun e w'=>e= .returned (.agg #[.int .i64 (bT s sd rtl).kind,.int .i64 (bT s sd rtl).n])/\Below w.heap.size w w':=by
 by_cases h1:sd=1
 ·subst h1
  cases rtl
  ·go_enter Tryz.func196,Tryz.ntmps196
   go_wp2
   go_region
   all_goals go_wp2
   all_goals(try go_wp2)
   all_goals(refine bodyPost_ret (v:= .agg #[.int .i64 (bT s 1 false).kind,.int .i64 (bT s 1 false).n]) (by simp [results,Tryz.results196,go_sem,bT, *]) rfl ?_)
   all_goals exact⟨rfl,by repeat(first|(with_reducible exact du _)|(with_reducible assumption)|(with_reducible refine Below.setCell ?_ (by first|omega|(simp;done)|(simp;omega)) _)|(with_reducible refine bB ?_ _)|(with_reducible refine Below.drew ?_)|(with_reducible refine aN ?_ (by with_reducible assumption))|(with_reducible refine aN ?_ (bW _ _)))⟩
  ·go_enter Tryz.func196,Tryz.ntmps196
   go_wp2
   go_region
   all_goals go_wp2
   all_goals(try go_wp2)
   all_goals(refine bodyPost_ret (v:= .agg #[.int .i64 (bT s 1 true).kind,.int .i64 (bT s 1 true).n]) (by simp [results,Tryz.results196,go_sem,bT, *]) rfl ?_)
   all_goals exact⟨rfl,by repeat(first|(with_reducible exact du _)|(with_reducible assumption)|(with_reducible refine Below.setCell ?_ (by first|omega|(simp;done)|(simp;omega)) _)|(with_reducible refine bB ?_ _)|(with_reducible refine Below.drew ?_)|(with_reducible refine aN ?_ (by with_reducible assumption))|(with_reducible refine aN ?_ (bW _ _)))⟩
 by_cases h3:sd=3
 ·subst h3
  cases rtl
  ·go_enter Tryz.func196,Tryz.ntmps196
   go_wp2
   go_region
   all_goals go_wp2
   all_goals(try go_wp2)
   all_goals(refine bodyPost_ret (v:= .agg #[.int .i64 (bT s 3 false).kind,.int .i64 (bT s 3 false).n]) (by simp [results,Tryz.results196,go_sem,bT, *]) rfl ?_)
   all_goals exact⟨rfl,by repeat(first|(with_reducible exact du _)|(with_reducible assumption)|(with_reducible refine Below.setCell ?_ (by first|omega|(simp;done)|(simp;omega)) _)|(with_reducible refine bB ?_ _)|(with_reducible refine Below.drew ?_)|(with_reducible refine aN ?_ (by with_reducible assumption))|(with_reducible refine aN ?_ (bW _ _)))⟩
  ·go_enter Tryz.func196,Tryz.ntmps196
   go_wp2
   go_region
   all_goals go_wp2
   all_goals(try go_wp2)
   all_goals(refine bodyPost_ret (v:= .agg #[.int .i64 (bT s 3 true).kind,.int .i64 (bT s 3 true).n]) (by simp [results,Tryz.results196,go_sem,bT, *]) rfl ?_)
   all_goals exact⟨rfl,by repeat(first|(with_reducible exact du _)|(with_reducible assumption)|(with_reducible refine Below.setCell ?_ (by first|omega|(simp;done)|(simp;omega)) _)|(with_reducible refine bB ?_ _)|(with_reducible refine Below.drew ?_)|(with_reducible refine aN ?_ (by with_reducible assumption))|(with_reducible refine aN ?_ (bW _ _)))⟩
 by_cases h0:sd=0
 ·subst h0
  cases rtl
  ·by_cases hk:s.start.kind=0
   ·go_enter Tryz.func196,Tryz.ntmps196
    go_wp2
    go_region
    all_goals go_wp2
    all_goals(try go_wp2)
    all_goals(refine bodyPost_ret (v:= .agg #[.int .i64 (bT s 0 false).kind,.int .i64 (bT s 0 false).n]) (by simp [results,Tryz.results196,go_sem,bT, *]) rfl ?_)
    all_goals exact⟨rfl,by repeat(first|(with_reducible exact du _)|(with_reducible assumption)|(with_reducible refine Below.setCell ?_ (by first|omega|(simp;done)|(simp;omega)) _)|(with_reducible refine bB ?_ _)|(with_reducible refine Below.drew ?_)|(with_reducible refine aN ?_ (by with_reducible assumption))|(with_reducible refine aN ?_ (bW _ _)))⟩
   ·go_enter Tryz.func196,Tryz.ntmps196
    go_wp2
    go_region
    all_goals go_wp2
    all_goals(try go_wp2)
    all_goals(refine bodyPost_ret (v:= .agg #[.int .i64 (bT s 0 false).kind,.int .i64 (bT s 0 false).n]) (by simp [results,Tryz.results196,go_sem,bT, *]) rfl ?_)
    all_goals exact⟨rfl,by repeat(first|(with_reducible exact du _)|(with_reducible assumption)|(with_reducible refine Below.setCell ?_ (by first|omega|(simp;done)|(simp;omega)) _)|(with_reducible refine bB ?_ _)|(with_reducible refine Below.drew ?_)|(with_reducible refine aN ?_ (by with_reducible assumption))|(with_reducible refine aN ?_ (bW _ _)))⟩
  ·by_cases hk:s.fin.kind=0
   ·go_enter Tryz.func196,Tryz.ntmps196
    go_wp2
    go_region
    all_goals go_wp2
    all_goals(try go_wp2)
    all_goals(refine bodyPost_ret (v:= .agg #[.int .i64 (bT s 0 true).kind,.int .i64 (bT s 0 true).n]) (by simp [results,Tryz.results196,go_sem,bT, *]) rfl ?_)
    all_goals exact⟨rfl,by repeat(first|(with_reducible exact du _)|(with_reducible assumption)|(with_reducible refine Below.setCell ?_ (by first|omega|(simp;done)|(simp;omega)) _)|(with_reducible refine bB ?_ _)|(with_reducible refine Below.drew ?_)|(with_reducible refine aN ?_ (by with_reducible assumption))|(with_reducible refine aN ?_ (bW _ _)))⟩
   ·go_enter Tryz.func196,Tryz.ntmps196
    go_wp2
    go_region
    all_goals go_wp2
    all_goals(try go_wp2)
    all_goals(refine bodyPost_ret (v:= .agg #[.int .i64 (bT s 0 true).kind,.int .i64 (bT s 0 true).n]) (by simp [results,Tryz.results196,go_sem,bT, *]) rfl ?_)
    all_goals exact⟨rfl,by repeat(first|(with_reducible exact du _)|(with_reducible assumption)|(with_reducible refine Below.setCell ?_ (by first|omega|(simp;done)|(simp;omega)) _)|(with_reducible refine bB ?_ _)|(with_reducible refine Below.drew ?_)|(with_reducible refine aN ?_ (by with_reducible assumption))|(with_reducible refine aN ?_ (bW _ _)))⟩
 by_cases h2:sd=2
 ·subst h2
  cases rtl
  ·by_cases hk:s.fin.kind=0
   ·go_enter Tryz.func196,Tryz.ntmps196
    go_wp2
    go_region
    all_goals go_wp2
    all_goals(try go_wp2)
    all_goals(refine bodyPost_ret (v:= .agg #[.int .i64 (bT s 2 false).kind,.int .i64 (bT s 2 false).n]) (by simp [results,Tryz.results196,go_sem,bT, *]) rfl ?_)
    all_goals exact⟨rfl,by repeat(first|(with_reducible exact du _)|(with_reducible assumption)|(with_reducible refine Below.setCell ?_ (by first|omega|(simp;done)|(simp;omega)) _)|(with_reducible refine bB ?_ _)|(with_reducible refine Below.drew ?_)|(with_reducible refine aN ?_ (by with_reducible assumption))|(with_reducible refine aN ?_ (bW _ _)))⟩
   ·go_enter Tryz.func196,Tryz.ntmps196
    go_wp2
    go_region
    all_goals go_wp2
    all_goals(try go_wp2)
    all_goals(refine bodyPost_ret (v:= .agg #[.int .i64 (bT s 2 false).kind,.int .i64 (bT s 2 false).n]) (by simp [results,Tryz.results196,go_sem,bT, *]) rfl ?_)
    all_goals exact⟨rfl,by repeat(first|(with_reducible exact du _)|(with_reducible assumption)|(with_reducible refine Below.setCell ?_ (by first|omega|(simp;done)|(simp;omega)) _)|(with_reducible refine bB ?_ _)|(with_reducible refine Below.drew ?_)|(with_reducible refine aN ?_ (by with_reducible assumption))|(with_reducible refine aN ?_ (bW _ _)))⟩
  ·by_cases hk:s.start.kind=0
   ·go_enter Tryz.func196,Tryz.ntmps196
    go_wp2
    go_region
    all_goals go_wp2
    all_goals(try go_wp2)
    all_goals(refine bodyPost_ret (v:= .agg #[.int .i64 (bT s 2 true).kind,.int .i64 (bT s 2 true).n]) (by simp [results,Tryz.results196,go_sem,bT, *]) rfl ?_)
    all_goals exact⟨rfl,by repeat(first|(with_reducible exact du _)|(with_reducible assumption)|(with_reducible refine Below.setCell ?_ (by first|omega|(simp;done)|(simp;omega)) _)|(with_reducible refine bB ?_ _)|(with_reducible refine Below.drew ?_)|(with_reducible refine aN ?_ (by with_reducible assumption))|(with_reducible refine aN ?_ (bW _ _)))⟩
   ·go_enter Tryz.func196,Tryz.ntmps196
    go_wp2
    go_region
    all_goals go_wp2
    all_goals(try go_wp2)
    all_goals(refine bodyPost_ret (v:= .agg #[.int .i64 (bT s 2 true).kind,.int .i64 (bT s 2 true).n]) (by simp [results,Tryz.results196,go_sem,bT, *]) rfl ?_)
    all_goals exact⟨rfl,by repeat(first|(with_reducible exact du _)|(with_reducible assumption)|(with_reducible refine Below.setCell ?_ (by first|omega|(simp;done)|(simp;omega)) _)|(with_reducible refine bB ?_ _)|(with_reducible refine Below.drew ?_)|(with_reducible refine aN ?_ (by with_reducible assumption))|(with_reducible refine aN ?_ (bW _ _)))⟩
 have g1:(sd==1)=false:=by simpa using h1
 have g3:(sd==3)=false:=by simpa using h3
 have g0:(sd==0)=false:=by simpa using h0
 have g2:(sd==2)=false:=by simpa using h2
 cases rtl
 ·go_enter Tryz.func196,Tryz.ntmps196
  go_wp2
  go_region
  all_goals go_wp2
  all_goals(try go_wp2)
  all_goals(refine bodyPost_ret (v:= .agg #[.int .i64 (bT s sd false).kind,.int .i64 (bT s sd false).n]) (by simp [results,Tryz.results196,go_sem,bT, *]) rfl ?_)
  all_goals exact⟨rfl,by repeat(first|(with_reducible exact du _)|(with_reducible assumption)|(with_reducible refine Below.setCell ?_ (by first|omega|(simp;done)|(simp;omega)) _)|(with_reducible refine bB ?_ _)|(with_reducible refine Below.drew ?_)|(with_reducible refine aN ?_ (by with_reducible assumption))|(with_reducible refine aN ?_ (bW _ _)))⟩
 ·go_enter Tryz.func196,Tryz.ntmps196
  go_wp2
  go_region
  all_goals go_wp2
  all_goals(try go_wp2)
  all_goals(refine bodyPost_ret (v:= .agg #[.int .i64 (bT s sd true).kind,.int .i64 (bT s sd true).n]) (by simp [results,Tryz.results196,go_sem,bT, *]) rfl ?_)
  all_goals exact⟨rfl,by repeat(first|(with_reducible exact du _)|(with_reducible assumption)|(with_reducible refine Below.setCell ?_ (by first|omega|(simp;done)|(simp;omega)) _)|(with_reducible refine bB ?_ _)|(with_reducible refine Below.drew ?_)|(with_reducible refine aN ?_ (by with_reducible assumption))|(with_reducible refine aN ?_ (bW _ _)))⟩
end Go.Proofs.YtckchgoblpgpbaaGreat
namespace Go.Proofs.YtckchgoblpgpbaaGreat
open Go.ChangeShapes Go.WideShapes Go.ChangeAt Go.RowKit Am Go.Proofs.Tryz
set_option maxRecDepth 100000
variable {F:Nat->Prop}{w:World}
theorem ut{a:Array Value}{u:Value}(h:RT F w [] [] (.agg (lc a)) u):u= .agg a:=by
 obtain⟨vs,rfl,hl,hc⟩:=h
 have ha:vs.length=a.toList.length:=by rw [hl];simp [lc]
 have:vs=a.toList:=by
  refine List.ext_getElem? fun i=> ?_
  by_cases hi:i<a.toList.length
  ·have h1:=zqc hi
   obtain⟨u,hu,_,hr⟩:=hc i (.imm a.toList[i]) (by simp [lc,h1])
   rw [hu,h1]
   exact congrArg some hr
  ·rw [zqz (by omega),zqz (by omega)]
 rw [this]
theorem xf:∀(j:Nat)(x:AT)(u:Value),([]:List AT)[j]? =some x->RT F w [] [] x u->([]:List Value)[j]? =some u:=fun j x u h=>by simp at h
theorem lp{x:AT}{v:Value}{xs:List AT}{vs:List Value}(h1:∀u,RT F w [] [] x u->u=v)(h2:∀(j:Nat)(x:AT)(u:Value),xs[j]? =some x->RT F w [] [] x u->vs[j]? =some u):
  ∀(j:Nat)(y:AT)(u:Value),(x::xs)[j]? =some y->RT F w [] [] y u->(v::vs)[j]? =some u:=fun j y u h hr=>by
 cases j with
 |zero=>simp only [zqw,zqy]at h;subst h;rw [h1 u hr];rfl
 |succ j=>exact h2 j y u (by simpa using h) hr
theorem fG(s:bM)(sd:Int)(rtl:Bool):PC0 196 [.agg (lc (bM.c s)),ai sd,abl rtl] (.t (agV (mu s sd rtl))):=
 pP (us:=[.agg (bM.c s),.int .i64 sd,.bool rtl]) (v:= .agg #[.int .i64 (mu s sd rtl).kind,.int .i64 (mu s sd rtl).n]) (by kernel_rfl) rfl
  (fun F w=>lp (fun u h=>ut h) (lp (fun u h=>h) (lp (fun u h=>h) xf)))
  (fun F w=>⟨[.int .i64 (mu s sd rtl).kind,.int .i64 (mu s sd rtl).n],rfl,rfl,fun j c hj=>by
   match j,hj with
   |0,hj=>cases hj;exact⟨_,rfl,rfl,rfl⟩
   |1,hj=>cases hj;exact⟨_,rfl,rfl,rfl⟩⟩)
  (fun w=>qg s sd rtl w)
def vc(s:ah)(sd:Int)(rtl:Bool)(base:Int):Int:=if kn (mu s.inset sd rtl) base=false then 0 else sg (Cw (mu s.inset sd rtl) base)
def vd(s:ah)(sd:Int)(rtl:Bool)(base:Int):Bool:=kn (mu s.inset sd rtl) base
theorem jw(s:ah)(sd:Int)(rtl:Bool)(base:Int):PC0 133 [.agg (lc (ah.c s)),ai sd,abl rtl,ai base] (.tup [ai (vc s sd rtl base),abl (vd s sd rtl base)]):=by
 obtain⟨a0,a1,a2,a3,a4,a5,a6,a7,a8,a9,hp,⟨hq,hr⟩,⟨hs,ht⟩,⟨hu,hv⟩,⟨hw,hx⟩,⟨hy,hz⟩,⟨hA,hB⟩,⟨hC,hD⟩,hE,⟨⟨hG,hH⟩,⟨hI,hJ⟩,⟨hK,hL⟩,⟨hM,hN⟩,⟨hO,hP⟩,⟨hQ,hT⟩⟩,⟨⟨hb,hc⟩,⟨hd,he⟩,⟨hf,hi⟩,⟨hj,hk⟩,⟨hl,hm⟩,⟨hn,ho⟩⟩,⟨hU,hV,hW,hX⟩,⟨hY,hZ,h0,h1⟩,h2,h3⟩:=s
 refine ae (aM f133) aB func133 fun g F hg hF=> ?_
 cbv
 (first|refine ov hg (fG ⟨⟨hb,hc⟩,⟨hd,he⟩,⟨hf,hi⟩,⟨hj,hk⟩,⟨hl,hm⟩,⟨hn,ho⟩⟩ _ _) rfl (fun R S hR hS=> ?_)|refine jz hg (fG ⟨⟨hb,hc⟩,⟨hd,he⟩,⟨hf,hi⟩,⟨hj,hk⟩,⟨hl,hm⟩,⟨hn,ho⟩⟩ _ _) rfl (fun R S hR hS=> ?_))
 cbv
 repeat'(first|(refine bN hg (dd _ _ _) rfl (fun R0 ha=> ?_);cases R0<;>cbv)|((first|refine bk hg (cY _ _ _) rfl (fun R0 ha=> ?_)|refine bk hg (bu _) rfl (fun R0 ha=> ?_));cbv)|(split<;>rename_i hh<;>(try rw [hh])<;>(try simp only [ew hg]at hh)<;>cbv))
 all_goals exact AY hF (by simp only [vc,vd];subst_vars;simp_all)
def ir(s:bM)(sd:Int)(rtl:Bool)(base:Int):Int:=if kn (mu s sd rtl) base=false then 0 else sg (Cw (mu s sd rtl) base)
def uJ(s:aG)(less:Int):aG:=if s.mode=1 then s else⟨s.mode,cl (wrap64 (cl s.n-cl less))⟩
def s9(s:ah)(w:Bool)(o:Int):Int:=if s.ratio<=0\/o<0 then-1 else if w then cl (fdv (wrap64 (cl o*cl s.ratio)) 64)else cl (fdv (wrap64 (cl o*64)) (cl s.ratio))
def DG(s:ah)(w rtl:Bool)(base:Int):Int:=if w then wrap64 (ir s.margin 0 rtl base+ir s.margin 2 rtl base)else wrap64 (ir s.margin 1 rtl base+ir s.margin 3 rtl base)
def BO(s:ah)(a b:Int)(rtl:Bool)(base mb:Int):Int:=if vd s a rtl base=false\/vd s b rtl base=false then-1 else cl (wrap64 (base-vc s a rtl base-vc s b rtl base-ir s.margin a rtl mb-ir s.margin b rtl mb))
def BG(s:ah)(w rtl:Bool)(base mb:Int):Int:=if rz s w base= -1 then(if w then BO s 0 2 rtl base mb else BO s 1 3 rtl base mb)else rz s w base
def DB(s:ah)(w:Bool)(base n m:Int):aG:=if n= -1 then uJ ⟨2,base⟩ m else⟨3,kF s w base n⟩
def apW(s:ah)(rtl:Bool)(wide high:Int):Int:=if BG s true rtl wide wide= -1 then s9 s true (BG s false rtl high wide)else BG s true rtl wide wide
def apH(s:ah)(rtl:Bool)(wide high:Int):Int:=if BG s false rtl high wide= -1 then s9 s false (apW s rtl wide high)else BG s false rtl high wide
def apX(s:ah)(rtl:Bool)(wide high:Int):aG:=DB s true wide (apW s rtl wide high) (DG s true rtl wide)
def apY(s:ah)(rtl:Bool)(wide high:Int):aG:=DB s false high (apH s rtl wide high) (DG s false rtl wide)
def apC(p s:ah)(rtl:Bool)(wide high:Int):List AC:=lc (ah.c p)++(lc (ah.c s)++[.B rtl,.J wide,.J high])
theorem sM(a b c d e:Int):wrap64 (wrap64 (wrap64 (wrap64 (a-b)-c)-d)-e)=wrap64 (a-b-c-d-e):=by unfold wrap64;omega
theorem ej(s:bM)(sd:Int)(rtl:Bool)(base:Int):PC0 134 [.agg (lc (bM.c s)),ai sd,abl rtl,ai base] (.i (ir s sd rtl base)):=by
 obtain⟨⟨a0,a1⟩,⟨a2,a3⟩,⟨a4,a5⟩,⟨a6,a7⟩,⟨a8,a9⟩,⟨hc,hd⟩⟩:=s
 have hb:=fG (⟨⟨a0,a1⟩,⟨a2,a3⟩,⟨a4,a5⟩,⟨a6,a7⟩,⟨a8,a9⟩,⟨hc,hd⟩⟩:bM)
 refine ae (aM f134) aB func134 fun g F hg hF=> ?_
 cbv
 repeat'(first|(refine ov hg (hb _ _) rfl (fun R0 R1 ha he=> ?_);cbv)|(refine bN hg (dd _ _ _) rfl (fun R0 ha=> ?_);cases R0<;>cbv)|((first|refine bk hg (cY _ _ _) rfl (fun R0 ha=> ?_)|refine bk hg (bu _) rfl (fun R0 ha=> ?_));cbv)|(split<;>rename_i hh<;>(try rw [hh])<;>(try simp only [ew hg]at hh)<;>cbv))
 all_goals exact bj hF (by simp only [ir];subst_vars;simp_all)
theorem dq(m n less:Int):PC0 124 [.agg [.J m,.J n],ai less] (.t (agP (uJ ⟨m,n⟩ less))):=by
 refine ae (aM f124) aB func124 fun g F hg hF=> ?_
 cbv
 repeat'(first|(refine bk hg (aq _) rfl (fun R0 ha=> ?_);cbv)|(split<;>rename_i hh<;>(try rw [hh])<;>(try simp only [ew hg]at hh)<;>cbv))
 all_goals exact sw hF (by simp only [uJ,(dP hg)]at *;subst_vars;simp_all)
theorem ff(s:ah)(w:Bool)(o:Int):PC0 123 [.agg (lc (ah.c s)),abl w,ai o] (.i (s9 s w o)):=by
 cases w<;>(refine ae (aM f123) aB func123 fun g F hg hF=> ?_;cbv;repeat'(first|((first|refine bk hg (aq _) rfl (fun R0 ha=> ?_)|refine aD hg (aq _) rfl (fun R0 ha=> ?_)|refine bk hg (ba _ _) rfl (fun R0 ha=> ?_));cbv)|(split<;>rename_i hh<;>(try rw [hh])<;>(try simp only [ew hg]at hh)<;>cbv)))
 all_goals exact bj hF (by simp only [s9,(ic hg)]at *;subst_vars;(try simp_all);(try(intro hx;omega)))
theorem bd(p s:ah)(rtl:Bool)(wide high sd:Int):PC0 87 [.agg (apC p s rtl wide high),ai sd] (.i (ir s.margin sd rtl wide)):=by
 obtain⟨b0,b1,b2,b3,b4,b5,b6,b7,b8,b9,hp,⟨hq,hr⟩,⟨hs,ht⟩,⟨hu,hv⟩,⟨hw,hx⟩,⟨hy,hz⟩,⟨hA,hB⟩,⟨hC,hD⟩,hE,⟨⟨ha,hb⟩,⟨hc,hd⟩,⟨he,hf⟩,⟨hi,hj⟩,⟨hk,hl⟩,⟨hm,hn⟩⟩,⟨⟨hG,hH⟩,⟨hI,hJ⟩,⟨hK,hL⟩,⟨hM,hN⟩,⟨hO,hP⟩,⟨hQ,hR⟩⟩,⟨hS,hT,hU,hV⟩,⟨hW,hX,hY,hZ⟩,h0,h1⟩:=s
 refine ae (aM f87) aB func87 fun g F hg hF=> ?_
 cbv
 repeat'(first|(refine bk hg (ej (⟨⟨ha,hb⟩,⟨hc,hd⟩,⟨he,hf⟩,⟨hi,hj⟩,⟨hk,hl⟩,⟨hm,hn⟩⟩:bM) _ _ _) rfl (fun R0 ho=> ?_);cbv)|(split<;>rename_i hh<;>(try rw [hh])<;>(try simp only [ew hg]at hh)<;>cbv))
 all_goals exact bj hF (by subst_vars;rfl)
theorem fJ(p s:ah)(rtl:Bool)(wide high sd:Int)(hw:sd=0\/sd=2):PC0 86 [.agg (apC p s rtl wide high),ai sd] (.tup [ai (vc s sd rtl wide),abl (vd s sd rtl wide)]):=by
 obtain⟨b0,b1,b2,b3,b4,b5,b6,b7,b8,b9,ha,⟨hb,hc⟩,⟨hd,he⟩,⟨hf,hh⟩,⟨hi,hj⟩,⟨hk,hl⟩,⟨hm,hn⟩,⟨ho,hp⟩,hq,⟨⟨hr,hs⟩,⟨ht,hu⟩,⟨hv,hx⟩,⟨hy,hz⟩,⟨hA,hB⟩,⟨hC,hD⟩⟩,⟨⟨hE,hG⟩,⟨hH,hI⟩,⟨hJ,hK⟩,⟨hL,hM⟩,⟨hN,hO⟩,⟨hP,hQ⟩⟩,⟨hR,hS,hT,hU⟩,⟨hV,hW,hX,hY⟩,hZ,h0⟩:=p
 rcases hw with rfl|rfl<;>(
  refine ae (aM f86) aB func86 fun g F hg hF=> ?_
  cbv
  (repeat'((first|refine uX hg (jw s _ _ _) rfl (fun R0 R1 h1 h2=> ?_)|have e:g .q .eql 0 0=true:=(by rw [bA hg];rfl);rw [e]|have e:g .q .eql 2 0=false:=(by rw [bA hg];rfl);rw [e]|have e:g .q .eql 2 2=true:=(by rw [bA hg];rfl);rw [e]);cbv))
  all_goals exact AY hF (by subst_vars;exact⟨rfl,rfl⟩))
theorem fI(p s:ah)(rtl:Bool)(wide high sd:Int)(hw:sd=1\/sd=3):PC0 86 [.agg (apC p s rtl wide high),ai sd] (.tup [ai (vc s sd rtl high),abl (vd s sd rtl high)]):=by
 obtain⟨b0,b1,b2,b3,b4,b5,b6,b7,b8,b9,ha,⟨hb,hc⟩,⟨hd,he⟩,⟨hf,hh⟩,⟨hi,hj⟩,⟨hk,hl⟩,⟨hm,hn⟩,⟨ho,hp⟩,hq,⟨⟨hr,hs⟩,⟨ht,hu⟩,⟨hv,hx⟩,⟨hy,hz⟩,⟨hA,hB⟩,⟨hC,hD⟩⟩,⟨⟨hE,hG⟩,⟨hH,hI⟩,⟨hJ,hK⟩,⟨hL,hM⟩,⟨hN,hO⟩,⟨hP,hQ⟩⟩,⟨hR,hS,hT,hU⟩,⟨hV,hW,hX,hY⟩,hZ,h0⟩:=p
 rcases hw with rfl|rfl<;>(
  refine ae (aM f86) aB func86 fun g F hg hF=> ?_
  cbv
  (repeat'((first|refine uX hg (jw s _ _ _) rfl (fun R0 R1 h1 h2=> ?_)|have e:g .q .eql 1 0=false:=(by rw [bA hg];rfl);rw [e]|have e:g .q .eql 3 0=false:=(by rw [bA hg];rfl);rw [e]|have e:g .q .eql 1 2=false:=(by rw [bA hg];rfl);rw [e]|have e:g .q .eql 3 2=false:=(by rw [bA hg];rfl);rw [e]);cbv))
  all_goals exact AY hF (by subst_vars;exact⟨rfl,rfl⟩))
theorem nD(p s:ah)(rtl:Bool)(wide high:Int):PC0 122 [.agg (apC p s rtl wide high),ai 0,ai 2,ai wide] (.i (BO s 0 2 rtl wide wide)):=by
 have c0:=fJ p s rtl wide high 0 (.inl rfl)
 have c2:=fJ p s rtl wide high 2 (.inr rfl)
 have m0:=bd p s rtl wide high 0
 have m2:=bd p s rtl wide high 2
 obtain⟨b0,b1,b2,b3,b4,b5,b6,b7,b8,b9,hc,⟨hd,he⟩,⟨hf,hi⟩,⟨hj,hk⟩,⟨hl,hm⟩,⟨hn,ho⟩,⟨hp,hq⟩,⟨hr,hs⟩,ht,⟨⟨hu,hv⟩,⟨hw,hx⟩,⟨hy,hz⟩,⟨hA,hB⟩,⟨hC,hD⟩,⟨hE,hG⟩⟩,⟨⟨hH,hI⟩,⟨hJ,hK⟩,⟨hL,hM⟩,⟨hN,hO⟩,⟨hP,hQ⟩,⟨hR,hS⟩⟩,⟨hT,hU,hV,hW⟩,⟨hX,hY,hZ,h0⟩,h1,h2⟩:=s
 refine ae (aM f122) aB func122 fun g F hg hF=> ?_
 cbv
 repeat'(first|(refine uX hg c0 rfl (fun R0 R1 ha hb=> ?_);cases R1<;>cbv)|(refine uX hg c2 rfl (fun R0 R1 ha hb=> ?_);cases R1<;>cbv)|((first|refine aD hg m0 rfl (fun R0 ha=> ?_)|refine aD hg m2 rfl (fun R0 ha=> ?_)|refine aD hg (aq _) rfl (fun R0 ha=> ?_));cbv)|(split<;>rename_i hh<;>(try rw [hh])<;>(try simp only [ew hg]at hh)<;>(first|(exfalso;omega)|cbv)))
 all_goals exact bj hF (by simp only [BO,(dP hg)]at *;subst_vars;simp_all [sM])
theorem nC(p s:ah)(rtl:Bool)(wide high:Int):PC0 122 [.agg (apC p s rtl wide high),ai 1,ai 3,ai high] (.i (BO s 1 3 rtl high wide)):=by
 have c0:=fI p s rtl wide high 1 (.inl rfl)
 have c2:=fI p s rtl wide high 3 (.inr rfl)
 have m0:=bd p s rtl wide high 1
 have m2:=bd p s rtl wide high 3
 obtain⟨b0,b1,b2,b3,b4,b5,b6,b7,b8,b9,hc,⟨hd,he⟩,⟨hf,hi⟩,⟨hj,hk⟩,⟨hl,hm⟩,⟨hn,ho⟩,⟨hp,hq⟩,⟨hr,hs⟩,ht,⟨⟨hu,hv⟩,⟨hw,hx⟩,⟨hy,hz⟩,⟨hA,hB⟩,⟨hC,hD⟩,⟨hE,hG⟩⟩,⟨⟨hH,hI⟩,⟨hJ,hK⟩,⟨hL,hM⟩,⟨hN,hO⟩,⟨hP,hQ⟩,⟨hR,hS⟩⟩,⟨hT,hU,hV,hW⟩,⟨hX,hY,hZ,h0⟩,h1,h2⟩:=s
 refine ae (aM f122) aB func122 fun g F hg hF=> ?_
 cbv
 repeat'(first|(refine uX hg c0 rfl (fun R0 R1 ha hb=> ?_);cases R1<;>cbv)|(refine uX hg c2 rfl (fun R0 R1 ha hb=> ?_);cases R1<;>cbv)|((first|refine aD hg m0 rfl (fun R0 ha=> ?_)|refine aD hg m2 rfl (fun R0 ha=> ?_)|refine aD hg (aq _) rfl (fun R0 ha=> ?_));cbv)|(split<;>rename_i hh<;>(try rw [hh])<;>(try simp only [ew hg]at hh)<;>(first|(exfalso;omega)|cbv)))
 all_goals exact bj hF (by simp only [BO,(dP hg)]at *;subst_vars;simp_all [sM])
theorem ox(p s:ah)(rtl:Bool)(wide high:Int):PC0 82 [.agg (apC p s rtl wide high)] (.tup [agP (apX s rtl wide high),agP (apY s rtl wide high)]):=by
 have q0:=nD p s rtl wide high
 have q1:=nC p s rtl wide high
 have m0:=bd p s rtl wide high 0
 have m1:=bd p s rtl wide high 1
 have m2:=bd p s rtl wide high 2
 have m3:=bd p s rtl wide high 3
 have fw:=bL s true wide
 have fh:=bL s false high
 have br:=ff s
 have bo:=bq s
 refine wq [(16,.op 0 (.op 1 (.op 2 (.op 3 .done .none) .none) (.op 2 (.op 1 (.op 3 .done .none) .none) .none)) (.op 1 (.op 0 (.op 2 (.op 3 .done .none) .none) .none) .none))] (c:=aM f82) aB func82 (by kernel_rfl) (by kernel_rfl) (by rfl) (by kernel_rfl) fun g F hg hF=> ?_
 cbv
 repeat'(first|((first|refine aD hg fw rfl (fun R0 ha=> ?_)|refine aD hg fh rfl (fun R0 ha=> ?_)|refine bk hg q0 rfl (fun R0 ha=> ?_)|refine bk hg q1 rfl (fun R0 ha=> ?_)|refine bk hg (br _ _) rfl (fun R0 ha=> ?_)|refine aD hg m0 rfl (fun R0 ha=> ?_)|refine aD hg m1 rfl (fun R0 ha=> ?_)|refine aD hg m2 rfl (fun R0 ha=> ?_)|refine aD hg m3 rfl (fun R0 ha=> ?_)|refine jz hg (dq _ _ _) rfl (fun R0 R1 ha hb=> ?_)|refine bk hg (bo _ _ _) rfl (fun R0 ha=> ?_)|refine ov hg (bE _) rfl (fun R0 R1 ha hb=> ?_));cbv)|(split<;>rename_i hh<;>(try rw [hh])<;>(try simp only [ew hg]at hh)<;>(first|(exfalso;omega)|cbv)))
 all_goals(clear q0 q1 m0 m1 m2 m3 fw fh br bo;repeat'(first|exact True.intro|apply And.intro))
 all_goals refine CU hF ?_
 all_goals(simp only [(aJ hg)]at *;clear hF hg;simp only [apX,apY,apW,apH,BG,DB,DG];grind)
def Cl(x:af)(K R:LLA):List AC:= .J x.up:: .view K::(lc (ah.c x.style)++[.B x.measured,.view R])
theorem xX(x:af):x.ac=Cl x (vw ak x.kids) (vw aK.c x.table.rules):=rfl
def DK(xs:List Int)(n:Int):Bool:=xs.any fun x=>decide (x=n)
theorem rV{p:Int->Bool}{xs:List Int}{z:Int}{x:Int}(h0:0<=z)(hx:xs[z.toNat]? =some x):(xs.take (z+1).toNat).filter p=(xs.take z.toNat).filter p++if p x then [x]else []:=by
 rw [show(z+1).toNat=z.toNat+1 by omega,List.take_add_one,hx,List.filter_append]
 simp only [Option.toList_some]
 cases h:p x<;>simp [h]
theorem sO(xs ys:List Int):vw ak (xs++ys)=vw ak xs++vw ak ys:=by simp [vw]
theorem aR(ns:List af)(n:Int)(x:af)(h1:1<=n)(h2:n<=1048576)(hx:ns[(n-1).toNat]? =some x)(V K R:LLA)(hV:V=vwA af.ac ns)(hK:K=vw ak x.kids)(hR:R=vw aK.c x.table.rules):PC0 44 [.agg [.view V],ai n] (.t (.agg (Cl x K R))):=by
 subst hV hK hR
 rw [<-xX]
 obtain⟨a0,a1,⟨a2,a3,a4,a5,a6,a7,a8,a9,ha,hb,hc,⟨hd,he⟩,⟨hf,hg⟩,⟨hh,hi⟩,⟨hj,hk⟩,⟨hl,hm⟩,⟨hn,ho⟩,⟨hp,hq⟩,hr,⟨⟨hs,ht⟩,⟨hu,hv⟩,⟨hw,hy⟩,⟨hz,hA⟩,⟨hB,hC⟩,⟨hD,hE⟩⟩,⟨⟨hF,hG⟩,⟨hH,hI⟩,⟨hJ,hL⟩,⟨hM,hN⟩,⟨hO,hP⟩,⟨hQ,hS⟩⟩,⟨hT,hU,hW,hX⟩,⟨hY,hZ,h0,h3⟩,h4,h5⟩,h6,⟨h7⟩⟩:=x
 exact d4 _ n h1 h2 (fy hx)
variable {ns:List af}
theorem fM(h:aV ns=true){n:Int}{x:af}(h1:1<=n)(hx:ns[(n-1).toNat]? =some x):∀k∈x.kids,isN ns k=true:=fun k hk=>by
 simp only [aV,zqs]at h
 have:=(eJ ns ns 0).1 h.2 _ x hx
 simp only [bP,zqs,zqf,dY]at this
 exact(this.2.2.2.1 k hk).1
theorem m8(ns:List af)(n kid:Int)(x y:af)(hl:ns.length<=1048576)(h1:isN ns n=true)(h2:isN ns kid=true)(hx:ns[(n-1).toNat]? =some x)(hy:ns[(kid-1).toNat]? =some y)(rtl:Bool)(wide high:Int):PC0 81 [.agg [.view (vwA af.ac ns),.B rtl,.imm (.pointer none)],ai n,ai kid,ai wide,ai high] (.t (.agg (apC x.style y.style rtl (wv x.style wide) (xU x.style high)))):=by
 obtain⟨V,hV⟩:=nmE (vwA af.ac ns)
 obtain⟨K,hK⟩:=nmE (vw ak x.kids)
 obtain⟨Rt,hb⟩:=nmE (vw aK.c x.table.rules)
 obtain⟨Ky,ha⟩:=nmE (vw ak y.kids)
 obtain⟨Ry,hc⟩:=nmE (vw aK.c y.table.rules)
 have b1:=aI h1
 have b2:=aI h2
 have cn:=aR ns n x b1.1 (by have:=b1.2.1;omega) hx V K Rt hV hK hb
 have cy:=aR ns kid y b2.1 (by have:=b2.2.1;omega) hy V Ky Ry hV ha hc
 have cp:=qh x.style wide high
 obtain⟨W,hW⟩:=nmE (wv x.style wide)
 obtain⟨H,hH⟩:=nmE (xU x.style high)
 rw [<-hW,<-hH]at cp
 rw [<-hV,<-hW,<-hH]
 refine ae (aM f81) aB func81 fun g F hg hF=> ?_
 cbv
 repeat'((first|refine aa hg cn ?_|refine aa hg cy ?_|refine ad hg cp ?_);cbv)
 refine mh hF ?_ ?_
 ·rfl
 ·exact⟨rfl,rfl⟩
theorem w8:∀(xs:List Int)(n:Int),cnt xs n=1->n∈xs
 | [],n,h=>by simp [cnt]at h
 |x::xs,n,h=>by
  by_cases hx:x=n
  ·rw [hx];exact List.mem_cons_self ..
  ·refine List.mem_cons_of_mem _ (w8 xs n ?_)
   simpa [cnt,hx]using h
theorem qk(xs:List Int)(n:Int):DK xs n=true↔n∈xs:=by simp [DK]
theorem mq(h:aV ns=true){n:Int}{x:af}(h1:1<=n)(hx:ns[(n-1).toNat]? =some x):bP ns n x=true:=by
 simp only [aV,zqs]at h
 have:=(eJ ns ns 0).1 h.2 _ x hx
 rwa [show(0:Int)+(((n-1).toNat:Nat):Int)+1=n by omega]at this
theorem B6(h:aV ns=true){n k:Int}{x y:af}(h1:1<=n)(hx:ns[(n-1).toNat]? =some x)(k1:1<=k)(hy:ns[(k-1).toNat]? =some y):y.up=n↔DK x.kids k=true:=by
 have hk:fD ns n=x.kids:=by unfold fD;rw [hx]
 have hu:upN ns k=y.up:=by unfold upN;rw [hy]
 constructor
 ·intro he
  have:=mq h k1 hy
  simp only [bP,uk,zqs,Bool.or_eq_true,zqp,he,hk]at this
  rcases this.2.2.1 with h2|h2
  ·omega
  ·exact(qk _ _).2 (w8 _ _ h2)
 ·intro he
  have:=mq h h1 hx
  simp only [bP,zqs,zqf,dY,zqp]at this
  rw [<-hu]
  exact(this.2.2.2.1 k ((qk _ _).1 he)).2
def fa(bl:Nat->Nat)(h:AH):List AC->List AC->Prop
 | [],[]=>True
 |c::l,d::l'=>o9 bl h c d/\fa bl h l l'
 |_,_=>False
def Ao(u:Int)(q:Nat)(R:LLA)(s:ah)(m:Bool)(b2:List Nat):List AC:= .J u:: .own q::(lc (ah.c s)++[.B m,.fv b2 R])
end Go.Proofs.YtckchgoblpgpbaaGreat
