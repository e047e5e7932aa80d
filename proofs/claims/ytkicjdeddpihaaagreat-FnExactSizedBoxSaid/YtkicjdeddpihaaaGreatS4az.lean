/- The library's stable sort of a short row, with a comparison that may lay blocks. -/
import Derived.Shelf.GgSortMore.Stable
import Derived.Below
import Derived.Test.YtkicjdeddpihaaaGreatS4ay
set_option linter.unusedVariables false
set_option linter.unusedSimpArgs false
set_option maxHeartbeats 8000000
namespace Go.Proofs.YtkicjdeddpihaaaGreat
open Go.ChangeShapes Go.WideShapes Go.ChangeAt Go.RowKit Am Go.Proofs.Tryz
set_option maxRecDepth 100000
def jO(s:ao):Bool:=decide (s.dir=1)||decide (s.dir=3)
def lv(s:ao)(rtl:Bool):Bool:=if s.dir=1 then rtl else if s.dir=3 then !rtl else decide (s.dir=4)
def lN(s:ao)(rtl:Bool):Bool:=xor (decide (s.wrap=3)) (rtl&& !jO s)
def sd1(row gX:Bool):Int:=if row then(if gX then 2 else 0)else(if gX then 3 else 1)
def sd2(row gX:Bool):Int:=if row then(if gX then 0 else 2)else(if gX then 1 else 3)
def Bg(s k:ao):Int:=if(if k.self=0 then s.items else k.self)=5/\jO s=false then 2 else(if k.self=0 then s.items else k.self)
def Fl(inner at_ size:Int)(gX:Bool):Int:=if gX then wrap64 (wrap64 (inner-at_)-size)else at_
def ju(s:ao)(wide:Bool):Int:=if wide then cl s.colGap else cl s.rowGap
def wj(m:bh)(sd:Int)(rtl:Bool):Bool:=decide ((qN m sd rtl).kind=3)
def tak(s:az)(n:Int):Int:=if s.mode=3\/(s.mode=2/\s.n<n)then cl s.n else cl n
def kC(s:az):Int:=if s.mode=2\/s.mode=3 then s.n else-1
def DX(s:az):az:=if s.mode=3 then⟨2,s.n⟩else s
def knS(s:az):Int:=if s.mode=3 then s.n else-1
def Dh(s:az):Bool:=if s.mode=1 then decide (s.n=0)else(decide (s.mode=2)||decide (s.mode=3))&&rng s.n 0 1048576
def wh(c:Int):Int:=if c=3 then 2 else if c=4 then 3 else if c=5 then 4 else if c=6 then 5 else 1
def uH(x:av):Bool:=rng x.size 0 1048576&&(rng x.base 0 1048576&&(rng x.before (-1048576) 1048576&&(rng x.behind (-1048576) 1048576&&rng x.align 1 5)))
def onB(x:av):Bool:=decide (x.align=5)&&(!x.autoBefore&& !x.autoBehind)
def zQ(x:av):Bool:=decide (x.align=1)&&(!x.autoBefore&& !x.autoBehind)
def Gw(x:av)(cross base:Int):Int:=
 if uH x=false then 0 else
 let free:=wrap64 (wrap64 (wrap64 (cross-x.size)-x.before)-x.behind)
 if x.autoBefore||x.autoBehind then(if free<=0\/x.autoBefore=false then x.before else if x.autoBehind then wrap64 (x.before+fdv free 2)else wrap64 (x.before+free))
 else if x.align=3 then wrap64 (x.before+free)else if x.align=4 then wrap64 (x.before+fdv free 2)else if x.align=5 then wrap64 (base-x.base)else x.before
theorem gQ(s:ao):PC0 58 [.agg (lc (ao.c s))] (.t (abl (jO s))):=by
 refine ad (aM f58) ay func58 fun g F hg hF=> ?_
 cbv
 repeat'(first|(split<;>rename_i hh<;>(try rw [hh])<;>(try simp only [dD hg]at hh)<;>cbv))
 all_goals exact bk hF (by(try simp only [bn hg,fS hg,zqn]);clear hF hg;simp_all [jO])
theorem gV(s:ao):PC0 76 [.agg (lc (ao.c s))] (.t (abl (jO s))):=by
 refine ad (aM f76) ay func76 fun g F hg hF=> ?_
 cbv
 repeat'(first|(split<;>rename_i hh<;>(try rw [hh])<;>(try simp only [dD hg]at hh)<;>cbv))
 all_goals exact bk hF (by(try simp only [bn hg,fS hg,zqn]);clear hF hg;simp_all [jO])
theorem lh(s:ao)(rtl:Bool):PC0 204 [.agg (lc (ao.c s)),abl rtl] (.t (abl (lv s rtl))):=by
 cases rtl<;>(refine ad (aM f204) ay func204 fun g F hg hF=> ?_;cbv;repeat'(first|(split<;>rename_i hh<;>(try rw [hh])<;>(try simp only [dD hg]at hh)<;>cbv)))
 all_goals exact bk hF (by(try simp only [bn hg,fS hg,zqn]);clear hF hg;simp_all [lv])
theorem lG(s:ao)(rtl:Bool):PC0 163 [.agg (lc (ao.c s)),abl rtl] (.t (abl (lv s rtl))):=by
 cases rtl<;>(refine ad (aM f163) ay func163 fun g F hg hF=> ?_;cbv;repeat'(first|(split<;>rename_i hh<;>(try rw [hh])<;>(try simp only [dD hg]at hh)<;>cbv)))
 all_goals exact bk hF (by(try simp only [bn hg,fS hg,zqn]);clear hF hg;simp_all [lv])
theorem kj(s:ao)(rtl:Bool):PC0 203 [.agg (lc (ao.c s)),abl rtl] (.t (abl (lN s rtl))):=by
 have c1:=gQ s
 cases rtl<;>(refine ad (aM f203) ay func203 fun g F hg hF=> ?_;cbv;repeat'(first|(refine bd hg c1 rfl (fun R0 ha=> ?_);cases R0<;>cbv)|(split<;>rename_i hh<;>(try rw [hh])<;>(try simp only [dD hg]at hh)<;>cbv)))
 all_goals exact bk hF (by(try simp only [bn hg,fS hg,zqn]);clear hF hg;simp_all [lN])
theorem kx(s:ao)(rtl:Bool):PC0 187 [.agg (lc (ao.c s)),abl rtl] (.t (abl (lN s rtl))):=by
 have c1:=gV s
 cases rtl<;>(refine ad (aM f187) ay func187 fun g F hg hF=> ?_;cbv;repeat'(first|(refine bd hg c1 rfl (fun R0 ha=> ?_);cases R0<;>cbv)|(split<;>rename_i hh<;>(try rw [hh])<;>(try simp only [dD hg]at hh)<;>cbv)))
 all_goals exact bk hF (by(try simp only [bn hg,fS hg,zqn]);clear hF hg;simp_all [lN])
theorem k9(row gX:Bool):PC0 202 [abl row,abl gX] (.tup [ai (sd1 row gX),ai (sd2 row gX)]):=by
 cases row<;>cases gX<;>(refine ad (aM f202) ay func202 fun g F hg hF=> ?_;cbv)
 all_goals exact vQ hF (by exact⟨rfl,rfl⟩)
theorem mH(row gX:Bool):PC0 162 [abl row,abl gX] (.tup [ai (sd1 row gX),ai (sd2 row gX)]):=by
 cases row<;>cases gX<;>(refine ad (aM f162) ay func162 fun g F hg hF=> ?_;cbv)
 all_goals exact vQ hF (by exact⟨rfl,rfl⟩)
theorem px(s:ao)(rtl:Bool):PC0 134 [.agg (lc (ao.c s)),abl rtl] (.tup [ai (sd1 (jO s) (lv s rtl)),ai (sd2 (jO s) (lv s rtl))]):=by
 have c1:=gQ s
 have c2:=lh s rtl
 have c3:=k9
 refine ad (aM f134) ay func134 fun g F hg hF=> ?_
 cbv
 repeat'(first|(refine bd hg c1 rfl (fun R0 ha=> ?_);cases R0<;>cbv)|(refine bd hg c2 rfl (fun R0 ha=> ?_);cases R0<;>cbv)|(refine z6 hg (c3 _ _) rfl (fun R0 R1 ha hb=> ?_);cbv)|(split<;>rename_i hh<;>(try rw [hh])<;>(try simp only [dD hg]at hh)<;>cbv))
 all_goals exact vQ hF (by subst_vars;simp_all)
theorem kt(s:ao)(rtl:Bool):PC0 89 [.agg (lc (ao.c s)),abl rtl] (.tup [ai (sd1 (jO s) (lv s rtl)),ai (sd2 (jO s) (lv s rtl))]):=by
 have c1:=gV s
 have c2:=lG s rtl
 have c3:=mH
 refine ad (aM f89) ay func89 fun g F hg hF=> ?_
 cbv
 repeat'(first|(refine bd hg c1 rfl (fun R0 ha=> ?_);cases R0<;>cbv)|(refine bd hg c2 rfl (fun R0 ha=> ?_);cases R0<;>cbv)|(refine z6 hg (c3 _ _) rfl (fun R0 R1 ha hb=> ?_);cbv)|(split<;>rename_i hh<;>(try rw [hh])<;>(try simp only [dD hg]at hh)<;>cbv))
 all_goals exact vQ hF (by subst_vars;simp_all)
theorem oE(s:ao)(rtl:Bool):PC0 133 [.agg (lc (ao.c s)),abl rtl] (.tup [ai (sd1 (!jO s) (lN s rtl)),ai (sd2 (!jO s) (lN s rtl))]):=by
 have c1:=gQ s
 have c2:=kj s rtl
 have c3:=k9
 refine ad (aM f133) ay func133 fun g F hg hF=> ?_
 cbv
 repeat'(first|(refine bd hg c1 rfl (fun R0 ha=> ?_);cases R0<;>cbv)|(refine bd hg c2 rfl (fun R0 ha=> ?_);cases R0<;>cbv)|(refine z6 hg (c3 _ _) rfl (fun R0 R1 ha hb=> ?_);cbv)|(split<;>rename_i hh<;>(try rw [hh])<;>(try simp only [dD hg]at hh)<;>cbv))
 all_goals exact vQ hF (by subst_vars;simp_all)
theorem jD(s:ao)(rtl:Bool):PC0 108 [.agg (lc (ao.c s)),abl rtl] (.tup [ai (sd1 (!jO s) (lN s rtl)),ai (sd2 (!jO s) (lN s rtl))]):=by
 have c1:=gV s
 have c2:=kx s rtl
 have c3:=mH
 refine ad (aM f108) ay func108 fun g F hg hF=> ?_
 cbv
 repeat'(first|(refine bd hg c1 rfl (fun R0 ha=> ?_);cases R0<;>cbv)|(refine bd hg c2 rfl (fun R0 ha=> ?_);cases R0<;>cbv)|(refine z6 hg (c3 _ _) rfl (fun R0 R1 ha hb=> ?_);cbv)|(split<;>rename_i hh<;>(try rw [hh])<;>(try simp only [dD hg]at hh)<;>cbv))
 all_goals exact vQ hF (by subst_vars;simp_all)
theorem mB(s k:ao):PC0 107 [.agg (lc (ao.c s)),.agg (lc (ao.c k))] (.i (Bg s k)):=by
 have c1:=gQ s
 refine ad (aM f107) ay func107 fun g F hg hF=> ?_
 cbv
 repeat'(first|(refine bv hg c1 rfl (fun R0 ha=> ?_);cases R0<;>cbv)|(split<;>rename_i hh<;>(try rw [hh])<;>(try simp only [dD hg]at hh)<;>cbv))
 all_goals exact aV hF (by simp only [Bg];grind)
theorem mJ(s k:ao):PC0 116 [.agg (lc (ao.c s)),.agg (lc (ao.c k))] (.i (Bg s k)):=by
 have c1:=gV s
 refine ad (aM f116) ay func116 fun g F hg hF=> ?_
 cbv
 repeat'(first|(refine bv hg c1 rfl (fun R0 ha=> ?_);cases R0<;>cbv)|(split<;>rename_i hh<;>(try rw [hh])<;>(try simp only [dD hg]at hh)<;>cbv))
 all_goals exact aV hF (by simp only [Bg];grind)
theorem ld(i a s:Int)(b:Bool):PC0 239 [ai i,ai a,ai s,abl b] (.i (Fl i a s b)):=by
 cases b<;>(refine ad (aM f239) ay func239 fun g F hg hF=> ?_;cbv)
 all_goals exact aV hF (by(try simp only [dp hg]);rfl)
theorem lC(i a s:Int)(b:Bool):PC0 184 [ai i,ai a,ai s,abl b] (.i (Fl i a s b)):=by
 cases b<;>(refine ad (aM f184) ay func184 fun g F hg hF=> ?_;cbv)
 all_goals exact aV hF (by(try simp only [dp hg]);rfl)
theorem gR(s:ao)(w:Bool):PC0 64 [.agg (lc (ao.c s)),abl w] (.i (ju s w)):=by
 cases w<;>(refine ad (aM f64) ay func64 fun g F hg hF=> ?_;cbv;repeat'(first|(refine bm hg (aQ _) rfl (fun R0 ha=> ?_);cbv)|(split<;>rename_i hh<;>(try rw [hh])<;>(try simp only [dD hg]at hh)<;>cbv)))
 all_goals exact aV hF (by subst_vars;rfl)
theorem i9(s:ao)(w:Bool):PC0 82 [.agg (lc (ao.c s)),abl w] (.i (ju s w)):=by
 cases w<;>(refine ad (aM f82) ay func82 fun g F hg hF=> ?_;cbv;repeat'(first|(refine bm hg (aZ _) rfl (fun R0 ha=> ?_);cbv)|(split<;>rename_i hh<;>(try rw [hh])<;>(try simp only [dD hg]at hh)<;>cbv)))
 all_goals exact aV hF (by subst_vars;rfl)
theorem lj(s:bh)(sd:Int)(rtl:Bool):PC0 136 [.agg (lc (bh.c s)),ai sd,abl rtl] (.t (abl (wj s sd rtl))):=by
 have c1:=nm s sd rtl
 refine ad (aM f136) ay func136 fun g F hg hF=> ?_
 cbv
 repeat'(first|(refine tE hg c1 rfl (fun R0 R1 ha hb=> ?_);cbv)|(split<;>rename_i hh<;>(try rw [hh])<;>(try simp only [dD hg]at hh)<;>cbv))
 all_goals exact bk hF (by(try simp only [bn hg]);subst_vars;simp [wj];try exact(zqn _ _))
theorem dQ(s:bh)(sd:Int)(rtl:Bool):PC0 94 [.agg (lc (bh.c s)),ai sd,abl rtl] (.t (abl (wj s sd rtl))):=by
 have c1:=nT s sd rtl
 refine ad (aM f94) ay func94 fun g F hg hF=> ?_
 cbv
 repeat'(first|(refine tE hg c1 rfl (fun R0 R1 ha hb=> ?_);cbv)|(split<;>rename_i hh<;>(try rw [hh])<;>(try simp only [dD hg]at hh)<;>cbv))
 all_goals exact bk hF (by(try simp only [bn hg]);subst_vars;simp [wj];try exact(zqn _ _))
theorem ea(m n k:Int):PC0 131 [.agg [.J m,.J n],ai k] (.i (tak ⟨m,n⟩ k)):=by
 refine ad (aM f131) ay func131 fun g F hg hF=> ?_
 cbv
 repeat'(first|(refine bm hg (aQ _) rfl (fun R0 ha=> ?_);cbv)|(split<;>rename_i hh<;>(try rw [hh])<;>(try simp only [dD hg]at hh)<;>cbv))
 all_goals exact aV hF (by simp only [tak];subst_vars;grind)
theorem fE(m n k:Int):PC0 84 [.agg [.J m,.J n],ai k] (.i (tak ⟨m,n⟩ k)):=by
 refine ad (aM f84) ay func84 fun g F hg hF=> ?_
 cbv
 repeat'(first|(refine bm hg (aZ _) rfl (fun R0 ha=> ?_);cbv)|(split<;>rename_i hh<;>(try rw [hh])<;>(try simp only [dD hg]at hh)<;>cbv))
 all_goals exact aV hF (by simp only [tak];subst_vars;grind)
theorem ip(m n:Int):PC0 65 [.agg [.J m,.J n]] (.i (kC ⟨m,n⟩)):=by
 refine ad (aM f65) ay func65 fun g F hg hF=> ?_
 cbv
 repeat'(first|(split<;>rename_i hh<;>(try rw [hh])<;>(try simp only [dD hg]at hh)<;>cbv))
 all_goals exact aV hF (by simp only [kC];grind)
theorem nV(m n:Int):PC0 83 [.agg [.J m,.J n]] (.i (kC ⟨m,n⟩)):=by
 refine ad (aM f83) ay func83 fun g F hg hF=> ?_
 cbv
 repeat'(first|(split<;>rename_i hh<;>(try rw [hh])<;>(try simp only [dD hg]at hh)<;>cbv))
 all_goals exact aV hF (by simp only [kC];grind)
theorem li(m n:Int):PC0 141 [.agg [.J m,.J n]] (.t (agP (DX ⟨m,n⟩))):=by
 refine ad (aM f141) ay func141 fun g F hg hF=> ?_
 cbv
 repeat'(first|(split<;>rename_i hh<;>(try rw [hh])<;>(try simp only [dD hg]at hh)<;>cbv))
 all_goals exact mX hF (by simp only [DX];grind)
theorem lI(m n:Int):PC0 165 [.agg [.J m,.J n]] (.t (agP (DX ⟨m,n⟩))):=by
 refine ad (aM f165) ay func165 fun g F hg hF=> ?_
 cbv
 repeat'(first|(split<;>rename_i hh<;>(try rw [hh])<;>(try simp only [dD hg]at hh)<;>cbv))
 all_goals exact mX hF (by simp only [DX];grind)
theorem dq(m n:Int):PC0 62 [.agg [.J m,.J n]] (.i (knS ⟨m,n⟩)):=by
 refine ad (aM f62) ay func62 fun g F hg hF=> ?_
 cbv
 repeat'(first|(split<;>rename_i hh<;>(try rw [hh])<;>(try simp only [dD hg]at hh)<;>cbv))
 all_goals exact aV hF (by simp only [knS];grind)
theorem eJ(m n:Int):PC0 88 [.agg [.J m,.J n]] (.i (knS ⟨m,n⟩)):=by
 refine ad (aM f88) ay func88 fun g F hg hF=> ?_
 cbv
 repeat'(first|(split<;>rename_i hh<;>(try rw [hh])<;>(try simp only [dD hg]at hh)<;>cbv))
 all_goals exact aV hF (by simp only [knS];grind)
theorem mz(m n:Int):PC0 56 [.agg [.J m,.J n]] (.t (abl (Dh ⟨m,n⟩))):=by
 refine ad (aM f56) ay func56 fun g F hg hF=> ?_
 cbv
 repeat'(first|(refine bv hg (bi _ _ _) rfl (fun R0 ha=> ?_);cases R0<;>cbv)|(split<;>rename_i hh<;>(try rw [hh])<;>(try simp only [dD hg]at hh)<;>cbv))
 all_goals exact bk hF (by(try simp only [bn hg,zqn]at *);clear hF hg;simp_all [Dh,rng];try grind)
theorem mI(m n:Int):PC0 74 [.agg [.J m,.J n]] (.t (abl (Dh ⟨m,n⟩))):=by
 refine ad (aM f74) ay func74 fun g F hg hF=> ?_
 cbv
 repeat'(first|(refine bv hg (bR _ _ _) rfl (fun R0 ha=> ?_);cases R0<;>cbv)|(split<;>rename_i hh<;>(try rw [hh])<;>(try simp only [dD hg]at hh)<;>cbv))
 all_goals exact bk hF (by(try simp only [bn hg,zqn]at *);clear hF hg;simp_all [Dh,rng];try grind)
theorem oA(c:Int):PC0 286 [ai c] (.i (wh c)):=by
 refine ad (aM f286) ay func286 fun g F hg hF=> ?_
 cbv
 repeat'(first|(split<;>rename_i hh<;>(try rw [hh])<;>(try simp only [dD hg]at hh)<;>cbv))
 all_goals exact aV hF (by simp only [wh];grind)
theorem qc(c:Int):PC0 247 [ai c] (.i (wh c)):=by
 refine ad (aM f247) ay func247 fun g F hg hF=> ?_
 cbv
 repeat'(first|(split<;>rename_i hh<;>(try rw [hh])<;>(try simp only [dD hg]at hh)<;>cbv))
 all_goals exact aV hF (by simp only [wh];grind)
theorem nk(x:av):PC0 290 [.agg (lc (av.c x))] (.t (abl (uH x))):=by
 refine ad (aM f290) ay func290 fun g F hg hF=> ?_
 cbv
 repeat'(first|(refine bv hg (bi _ _ _) rfl (fun R0 ha=> ?_);cases R0<;>cbv)|(split<;>rename_i hh<;>(try rw [hh])<;>(try simp only [dD hg]at hh)<;>cbv))
 all_goals exact bk hF (by(try simp only [bn hg,fS hg,zqn]);clear hF hg;simp_all [uH])
theorem nS(x:av):PC0 252 [.agg (lc (av.c x))] (.t (abl (uH x))):=by
 refine ad (aM f252) ay func252 fun g F hg hF=> ?_
 cbv
 repeat'(first|(refine bv hg (bR _ _ _) rfl (fun R0 ha=> ?_);cases R0<;>cbv)|(split<;>rename_i hh<;>(try rw [hh])<;>(try simp only [dD hg]at hh)<;>cbv))
 all_goals exact bk hF (by(try simp only [bn hg,fS hg,zqn]);clear hF hg;simp_all [uH])
theorem je(x:av):PC0 253 [.agg (lc (av.c x))] (.t (abl (x.autoBefore||x.autoBehind))):=by
 obtain⟨s,b,c,p,q,a,e⟩:=x
 cases p<;>cases q<;>(refine ad (aM f253) ay func253 fun g F hg hF=> ?_;cbv)
 all_goals exact bk hF rfl
theorem nZ(x:av):PC0 251 [.agg (lc (av.c x))] (.t (abl (onB x))):=by
 obtain⟨s,b,c,p,q,a,e⟩:=x
 cases p<;>cases q<;>(refine ad (aM f251) ay func251 fun g F hg hF=> ?_;cbv;repeat'(first|(split<;>rename_i hh<;>(try rw [hh])<;>(try simp only [dD hg]at hh)<;>cbv)))
 all_goals exact bk hF (by(try simp only [bn hg,fS hg,zqn]);clear hF hg;simp_all [onB,zQ])
theorem xg(x:av):PC0 180 [.agg (lc (av.c x))] (.t (abl (zQ x))):=by
 obtain⟨s,b,c,p,q,a,e⟩:=x
 cases p<;>cases q<;>(refine ad (aM f180) ay func180 fun g F hg hF=> ?_;cbv;repeat'(first|(split<;>rename_i hh<;>(try rw [hh])<;>(try simp only [dD hg]at hh)<;>cbv)))
 all_goals exact bk hF (by(try simp only [bn hg,fS hg,zqn]);clear hF hg;simp_all [onB,zQ])
theorem nr(x:av):PC0 289 [.agg (lc (av.c x))] (.t (abl (onB x))):=by
 have c1:=je x
 obtain⟨s,b,c,p,q,a,e⟩:=x
 cases p<;>cases q<;>(refine ad (aM f289) ay func289 fun g F hg hF=> ?_;cbv;repeat'(first|(refine bv hg c1 rfl (fun R0 ha=> ?_);cases R0<;>cbv)|(split<;>rename_i hh<;>(try rw [hh])<;>(try simp only [dD hg]at hh)<;>cbv)))
 all_goals exact bk hF (by(try simp only [bn hg,fS hg,zqn]);clear hF hg c1;simp_all [onB,zQ])
theorem o3(x:av):PC0 189 [.agg (lc (av.c x))] (.t (abl (zQ x))):=by
 have c1:=je x
 obtain⟨s,b,c,p,q,a,e⟩:=x
 cases p<;>cases q<;>(refine ad (aM f189) ay func189 fun g F hg hF=> ?_;cbv;repeat'(first|(refine bv hg c1 rfl (fun R0 ha=> ?_);cases R0<;>cbv)|(split<;>rename_i hh<;>(try rw [hh])<;>(try simp only [dD hg]at hh)<;>cbv)))
 all_goals exact bk hF (by(try simp only [bn hg,fS hg,zqn]);clear hF hg c1;simp_all [onB,zQ])
theorem mw(a b:Int):PC0 106 [ai a,ai b] (.i (if b<a then b else a)):=by
 refine ad (aM f106) ay func106 fun g F hg hF=> ?_
 cbv
 repeat'(first|(split<;>rename_i hh<;>(try rw [hh])<;>(try simp only [dD hg]at hh)<;>cbv))
 all_goals exact aV hF (by grind)
theorem jd(x:av):PC0 142 [.agg (lc (av.c x))] (.i (wrap64 (x.before+x.behind))):=by
 refine ad (aM f142) ay func142 fun g F hg hF=> ?_
 cbv
 all_goals exact aV hF (by rw [aJ hg])
theorem nq(x:av)(cross base:Int):PC0 240 [.agg (lc (av.c x)),ai cross,ai base] (.i (Gw x cross base)):=by
 have c1:=je x
 have c2:=nk x
 obtain⟨s,b,c,p,q,a,e⟩:=x
 cases p<;>cases q<;>(refine ad (aM f240) ay func240 fun g F hg hF=> ?_;cbv;repeat'(first|(refine bv hg c1 rfl (fun R0 ha=> ?_);cases R0<;>cbv)|(refine bv hg c2 rfl (fun R0 ha=> ?_);cases R0<;>cbv)|(refine aX hg (bI _ _) rfl (fun R0 ha=> ?_);cbv)|(split<;>rename_i hh<;>(try rw [hh])<;>(try simp only [dD hg]at hh)<;>cbv)))
 all_goals exact aV hF (by(try simp only [dp hg,aJ hg]at *);(try clear c1);clear c2 hF hg;simp only [Gw];grind)
theorem nX(x:av)(cross base:Int):PC0 186 [.agg (lc (av.c x)),ai cross,ai base] (.i (Gw x cross base)):=by
 have c2:=nS x
 obtain⟨s,b,c,p,q,a,e⟩:=x
 cases p<;>cases q<;>(refine ad (aM f186) ay func186 fun g F hg hF=> ?_;cbv;repeat'(first|(refine bv hg c2 rfl (fun R0 ha=> ?_);cases R0<;>cbv)|(refine aX hg (bJ _ _) rfl (fun R0 ha=> ?_);cbv)|(split<;>rename_i hh<;>(try rw [hh])<;>(try simp only [dD hg]at hh)<;>cbv)))
 all_goals exact aV hF (by(try simp only [dp hg,aJ hg]at *);(try clear c1);clear c2 hF hg;simp only [Gw];grind)
end Go.Proofs.YtkicjdeddpihaaaGreat
namespace Go.Proofs.YtkicjdeddpihaaaGreat
open Go.Shelf Go.RowKit Go.Lib Go.Sort Go.Proofs
variable {P:Program}{ρ:Ren}{α:Type}[Inhabited α]
structure kF(enc:α->Value)(w:World)(blk off:Nat)(dk:Array α)(W:World):Prop where
 os:W.os=w.os
 tape:W.tape=w.tape
 output:W.output=w.output
 size:w.heap.size<=W.heap.size
 at_:∀b,b<w.heap.size->W.heap[b]? =(putRow enc w blk off dk).heap[b]?
section
variable {enc:α->Value}{w W W':World}{blk off:Nat}{d dk:Array α}
theorem kF.below(h:kF enc w blk off dk W)(hb:Below W.heap.size W W'):kF enc w blk off dk W':=
 ⟨hb.os.trans h.os,hb.tape.trans h.tape,hb.output.trans h.output,Nat.le_trans h.size hb.size,fun b hl=>(hb.block b (Nat.lt_of_lt_of_le hl h.size)).trans (h.at_ b hl)⟩
theorem kF.start(hH:Holds enc w blk off d):kF enc w blk off d w:=⟨rfl,rfl,rfl,Nat.le_refl _,fun b _=>by rw [putRow_self enc w blk off d hH]⟩
theorem kF.holds(h:kF enc w blk off dk W)(hblk:blk<w.heap.size)(hH:Holds enc w blk off d)(hs:dk.size=d.size):Holds enc W blk off dk:=fun j hj=>by
 have h1:=holds_putRow enc w blk off d dk hH hs j hj
 exact⟨(World.cell?_of_block (w:=putRow enc w blk off dk) (w':=W) (a:=⟨blk,off+j,none⟩) (h.at_ blk hblk)).trans h1.1,(World.frozen?_of_block (w:=putRow enc w blk off dk) (w':=W) (a:=⟨blk,off+j,none⟩) (h.at_ blk hblk)).trans h1.2⟩
theorem iY{b:Nat}(hb:b≠blk):(putRow enc w blk off dk).heap[b]? =w.heap[b]? :=by
 simp only [putRow,mapBlock,Array.getElem?_modify]
 rw [if_neg (fun e=>hb e.symm)]
theorem kF.cell(h:kF enc w blk off dk W){b k:Nat}(hb:b<w.heap.size)(hne:b≠blk):W.cell? ⟨b,k,none⟩=w.cell? ⟨b,k,none⟩:=
 World.cell?_of_block (w:=w) (w':=W) (a:=⟨b,k,none⟩) ((h.at_ b hb).trans (iY hne))
theorem tP(W:World)(a:Addr)(u:Value)(b:Nat):∃f:Obj->Obj,∀X:World,(X.setCell a u).heap[b]? =if a.block=b then(X.heap[b]?).map f else X.heap[b]? :=by
 exact⟨_,fun X=>by simp only [World.setCell,Array.getElem?_modify];rfl⟩
theorem kF.swap(h:kF enc w blk off dk W)(hblk:blk<w.heap.size){i j:Nat}(hi:i<dk.size)(hj:j<dk.size):
  kF enc w blk off (swp dk i j) ((W.setCell ⟨blk,off+i,none⟩ (enc dk[j]!)).setCell ⟨blk,off+j,none⟩ (enc dk[i]!)):=by
 refine⟨h.os,h.tape,h.output,by simp only [World.setCell,Array.size_modify];exact h.size,fun b hb=> ?_⟩
 rw [<-putRow_swp enc w blk off dk i j hi hj]
 obtain⟨f,hf⟩:=tP W ⟨blk,off+j,none⟩ (enc dk[i]!) b
 obtain⟨g,hg⟩:=tP W ⟨blk,off+i,none⟩ (enc dk[j]!) b
 rw [hf,hf,hg,hg,h.at_ b hb]
theorem kF.base{o:Obj}(hblk:blk<w.heap.size)(h:kF enc (w.alloc o) blk off dk W):kF enc w blk off dk W:=by
 refine⟨h.os,h.tape,h.output,Nat.le_trans (by simp) h.size,fun b hb=> ?_⟩
 rw [h.at_ b (by rw [World.size_alloc];omega)]
 simp only [putRow,mapBlock,Array.getElem?_modify]
 rw [Below.heap_alloc w o b hb]
end
def tF(P:Program)(g:Nat)(lb:Array Value)(enc:α->Value)(lt:α->α->Bool)(p:α->Prop)(blk off size:Nat)(w:World):Prop:=
 ∀(W:World)(dk:Array α),dk.size=size->(∀i,i<size->p dk[i]!)->kF enc w blk off dk W->∀i j:Nat,i<size->j<size->
  Calls P g (#[.int .i64 i,.int .i64 j]++lb) W fun e w'=>e= .returned (.bool (lt dk[i]! dk[j]!))/\Below W.heap.size W w'
theorem tF.alloc{g:Nat}{lb:Array Value}{enc:α->Value}{lt:α->α->Bool}{p:α->Prop}{blk off size:Nat}{w:World}{o:Obj}(hblk:blk<w.heap.size)(h:tF P g lb enc lt p blk off size w):tF P g lb enc lt p blk off size (w.alloc o):=
 fun W dk hs hp hW i j hi hj=>h W dk hs hp (hW.base hblk) i j hi hj
theorem F9{p:α->Prop}{d:Array α}{i j:Nat}(hi:i<d.size)(hj:j<d.size)(h:∀k,k<d.size->p d[k]!):∀k,k<d.size->p (swp d i j)[k]! :=fun k hk=>by
 unfold swp
 by_cases h1:k=j
 ·subst h1
  rw [getElem!_set_same _ _ _ (by simpa using hj)];exact h i hi
 ·rw [getElem!_set_other _ _ _ _ h1]
  by_cases h2:k=i
  ·subst h2
   rw [getElem!_set_same _ _ _ hi];exact h j hj
  ·rw [getElem!_set_other _ _ _ _ h2];exact h k hk
set_option maxRecDepth 100000 in
theorem mi(L:LaysGg.n26 P ρ)(enc:α->Value)(lt:α->α->Bool)(p:α->Prop)(g:Nat)(lb:Array Value)(sf:Nat)(sb:Array Value)(blk off a b:Nat)(d:Array α)(w:World)
  (eg:∀args w,(callFunc g args).run P w= .ok (.enter g args) w) (hless:tF P g lb enc lt p blk off d.size w) (hswap:SwapSwaps P sf sb enc blk off d.size)
  (hp:∀i,i<d.size->p d[i]!)
  (hH:Holds enc w blk off d) (hblk:blk<w.heap.size) (hab:a<=b) (hb:b<=d.size) (hsz:d.size<4611686018427387904):
  Calls P (ρ.f 26) #[.agg #[.func (.func g) #[] lb,.func (.func sf) #[] sb],.int .i64 a,.int .i64 b] w fun e w'=>
   e= .returned (.tuple #[])/\kF enc w blk off (Sort.insertionSort lt d a b) w':=by
 have hy:=L.mixed;have t0:=L.t0;have a0:=L.a0;have z0:=L.z0;have v0:=L.v0;have t3:=L.t3;have a3:=L.a3;have z3:=L.z3;have v3:=L.v3;have t4:=L.t4;have a4:=L.a4;have z4:=L.z4;have v4:=L.v4;have hV:=L.t26;have hK:=L.a26;have h3:=L.z26;have h0:=L.v26;have hX:=L.t37;have hL:=L.a37;have h4:=L.z37;have h1:=L.v37;have hY:=L.t44;have hM:=L.a44;have h5:=L.z44;have h2:=L.v44
 have hZ:=run_underlying L.t44
 have hh:Holds enc (w.alloc (.cells #[.func (.func g) #[] lb,.func (.func sf) #[] sb] (ρ.t 44))) blk off d:=by rw [alloc_eq_grow];exact holds_grow enc w _ blk off d hblk hH
 have ha:=hless.alloc (o:= .cells #[.func (.func g) #[] lb,.func (.func sf) #[] sb] (ρ.t 44)) hblk
 have hc:blk<(w.alloc (.cells #[.func (.func g) #[] lb,.func (.func sf) #[] sb] (ρ.t 44))).heap.size:=by rw [World.size_alloc];omega
 have hv:=kF.start hh
 have fin:∀D W,kF enc (w.alloc (.cells #[.func (.func g) #[] lb,.func (.func sf) #[] sb] (ρ.t 44))) blk off D W->kF enc w blk off D W:=fun D W h=>h.base hblk
 have cc:∀k v,((w.alloc (.cells #[.func (.func g) #[] lb,.func (.func sf) #[] sb] (ρ.t 44)))).cell? ⟨w.heap.size,k,none⟩=some v->∀D W,kF enc (w.alloc (.cells #[.func (.func g) #[] lb,.func (.func sf) #[] sb] (ρ.t 44))) blk off D W->W.cell? ⟨w.heap.size,k,none⟩=some v:=fun k v h D W hW=>by
  rw [hW.cell (by rw [World.size_alloc];omega) (by omega)];exact h
 have hm:=cc 0 (.func (.func g) #[] lb) (by simp)
 have hn:=cc 1 (.func (.func sf) #[] sb) (by simp)
 clear cc
 obtain⟨w1,hw⟩:∃w1,w1=(w.alloc (.cells #[.func (.func g) #[] lb,.func (.func sf) #[] sb] (ρ.t 44))):=⟨_,rfl⟩
 rw [<-hw]at hh ha hc hv fin hm hn
 go_enter L.f26,BodyGg.n26_ntmps ρ
 go_wp2
 rw [<-hw]
 go_loopw [6] (fun vi wr=>∃(i:Nat)(dk:Array α),vi= .int .i64 i/\a<i/\i<=b+1/\dk.size=d.size/\(∀k,k<d.size->p dk[k]!)/\kF enc w1 blk off dk wr/\
   insOuter lt a b i dk=insOuter lt a b (a+1) d) (fun vi _=>b+1-(intOf vi).toNat)
 case atStart=>exact⟨a+1,d,by go_num,by omega,by omega,rfl,hp,hv,rfl⟩
 case round=>
  obtain⟨i,dk,rfl,hR,hT,hE,hu,hx,hO⟩:=hrel
  have HO:Hid (insOuter lt a b i dk=insOuter lt a b (a+1) d):=hO
  have HP:Hid (∀k,k<d.size->p dk[k]!):=hu
  have hg:Hid (kF enc w1 blk off dk wr):=hx
  have hJ:Hid (∀i,i<d.size->p d[i]!):=hp
  have HL:Hid (tF P g lb enc lt p blk off d.size w1):=ha
  have hG:Hid (tF P g lb enc lt p blk off d.size w):=hless
  have hi:Hid (∀D W,kF enc w1 blk off D W->W.cell? ⟨w.heap.size,0,none⟩=some (.func (.func g) #[] lb)):=hm
  have hj:Hid (∀D W,kF enc w1 blk off D W->W.cell? ⟨w.heap.size,1,none⟩=some (.func (.func sf) #[] sb)):=hn
  have HF:Hid (∀D W,kF enc w1 blk off D W->kF enc w blk off D W):=fin
  clear hO hu hx hp ha hless hm hn fin
  have hB:=hi.out _ _ hg.out
  have hC:=hj.out _ _ hg.out
  go_wp2
  ·
   go_loopw [7] (fun vj hF=>∃(j:Nat)(dj:Array α),vj= .int .i64 j/\a<=j/\j<=i/\dj.size=d.size/\(∀k,k<d.size->p dj[k]!)/\kF enc w1 blk off dj hF/\
     insInner lt a j dj=insInner lt a i dk) (fun vj _=>(intOf vj).toNat)
   case atStart=>exact⟨i,dk,rfl,by omega,Nat.le_refl _,hE,HP.out,hg.out,rfl⟩
   case round=>
    clear hB hC
    obtain⟨j,dj,rfl,hS,hU,hd,ht,hf,hI⟩:=hrel
    have hr:i<b:=by assumption
    have hQ:=hf.holds hc hh hd
    have c0:=hi.out _ _ hf
    have c1:=hj.out _ _ hf
    have HW:Hid (kF enc w1 blk off dj wr):=hf
    have HI:Hid (insInner lt a j dj=insInner lt a i dk):=hI
    have hk:Hid (∀k,k<d.size->p dj[k]!):=ht
    clear hf hI ht
    have hz:(j<=a\/lt dj[j]! dj[j-1]! =false)->∀W,kF enc w1 blk off dj W->∃i' dk',Value.int .i64 ((i:Int)+1)= .int .i64 (i':Nat)/\a<i'/\i'<=b+1/\dk'.size=d.size/\(∀k,k<d.size->p dk'[k]!)/\
      kF enc w1 blk off dk' W/\insOuter lt a b i' dk'=insOuter lt a b (a+1) d:=fun hs W hW=>
     ⟨i+1,dj,by go_num,by omega,by omega,hd,hk.out,hW,
      by rw [<-HO.out,insOuter_go _ _ _ _ _ hr,<-HI.out,insInner_stop _ _ _ _ hs]⟩
    have hq:Hid _:=hz
    clear hz
    by_cases hja:a<j
    ·have hl:=HL.out wr dj hd hk.out HW.out j (j-1) (by omega) (by omega)
     rw [show(((j-1:Nat):Int))=(j:Int)-1 by omega]at hl
     cases hlv:lt dj[j]! dj[j-1]! with
     |true=>
      rw [hlv]at hl
      go_wp2_with (go_at_fn g;refine hl.mono ?_;rintro e w' ⟨rfl,hbw⟩;have he:=HW.out.below hbw;have hN:=hi.out _ _ he;have hP:=hj.out _ _ he;have hA:Hid (kF enc w1 blk off dj w'):=he;have ho:=he.holds hc hh hd;clear hbw he)
      have hs:=hswap w' dj ho hd j (j-1) (by omega) (by omega)
      rw [show(((j-1:Nat):Int))=(j:Int)-1 by omega]at hs
      rw [hs,Oper.upon_value]
      go_wp2
      go_roundw
      case rel=>
       (repeat apply Exists.intro)
       refine⟨⟨j-1,swp dj j (j-1),by congr 1<;>omega,by omega,by omega,by rw [size_swp];exact hd,?_,?_,?_⟩,by rw [zqu hr,show((j-1:Nat):Int)=(j:Int)-1 by omega]⟩
       ·have:=F9 (i:=j) (j:=j-1) (d:=dj) (by omega) (by omega) (by rw [hd];exact hk.out)
        rw [hd]at this;exact this
       ·exact hA.out.swap hc (by omega) (by omega)
       ·rw [<-HI.out,insInner_go lt a j dj hja hlv]
      case measure=>simp [intOf];omega
     |false=>
      rw [hlv]at hl
      go_wp2_with (go_at_fn g;refine hl.mono ?_;rintro e w' ⟨rfl,hbw⟩)
      go_roundw
      case rel=>exact hq.out (Or.inr hlv) _ (HW.out.below hbw)
      case measure=>simp [intOf];omega
    ·go_wp2
     go_roundw
     case rel=>exact hq.out (Or.inl (by omega)) _ HW.out
     case measure=>simp [intOf];omega
  ·
   have hD:¬i<b:=by assumption
   go_end0
   exact⟨rfl,by unfold Sort.insertionSort;rw [<-HO.out,insOuter_stop _ _ _ _ _ hD];exact HF.out _ _ hg.out⟩
set_option maxRecDepth 100000 in
theorem uC(L:LaysGt.n15 P ρ)(enc:α->Value)(lt:α->α->Bool)(p:α->Prop)(g:Nat)(lb:Array Value)(sf:Nat)(sb:Array Value)(blk off:Nat)(d:Array α)(W:World)
  (eg:∀args w,(callFunc g args).run P w= .ok (.enter g args) w) (hless:tF P g lb enc lt p blk off d.size W) (hswap:SwapSwaps P sf sb enc blk off d.size)
  (hp:∀i,i<d.size->p d[i]!) (hH:Holds enc W blk off d) (hblk:blk<W.heap.size) (h20:d.size<20):
  Calls P (ρ.f 15) #[.agg #[.func (.func g) #[] lb,.func (.func sf) #[] sb],.int .i64 d.size] W fun e w'=>e= .returned (.tuple #[])/\kF enc W blk off (Sort.insertionSort lt d 0 d.size) w':=by
 have hb:=L.mixed;have t0:=L.t0;have a0:=L.a0;have z0:=L.z0;have v0:=L.v0;have t3:=L.t3;have a3:=L.a3;have z3:=L.z3;have v3:=L.v3;have t4:=L.t4;have a4:=L.a4;have z4:=L.z4;have v4:=L.v4;have hi:=L.t26;have hd:=L.a26;have hs:=L.z26;have hn:=L.v26;have hj:=L.t38;have he:=L.a38;have ht:=L.z38;have ho:=L.v38;have hk:=L.t42;have hf:=L.a42;have hu:=L.z42;have hq:=L.v42;have hl:=L.t47;have hg:=L.a47;have hv:=L.z47;have hr:=L.v47
 have hm:=run_underlying L.t42
 have hh:∀args w,(callFunc (ρ.f 29) args).run P w= .ok (.enter (ρ.f 29) args) w:=enters_of L.f29 (by kernel_rfl) rfl
 have LI:LaysGg.n26 P ρ.viaGt:=({L with}:LaysGt.n29 P ρ).elder
 have ha:Holds enc (W.alloc (.cells #[.func (.func g) #[] lb,.func (.func sf) #[] sb] (ρ.t 42))) blk off d:=by rw [alloc_eq_grow];exact holds_grow enc W _ blk off d hblk hH
 have hc:Calls P (ρ.f 29) #[.agg #[.func (.func g) #[] lb,.func (.func sf) #[] sb],.int .i64 (0:Nat),.int .i64 d.size] (W.alloc (.cells #[.func (.func g) #[] lb,.func (.func sf) #[] sb] (ρ.t 42))) fun e w'=>e= .returned (.tuple #[])/\kF enc W blk off (Sort.insertionSort lt d 0 d.size) w':=
  (mi LI enc lt p g lb sf sb blk off 0 d.size d _ eg (hless.alloc hblk) hswap hp ha (by rw [World.size_alloc];omega) (Nat.zero_le _) (Nat.le_refl _) (by omega)).mono fun e w' h=>⟨h.1,h.2.base hblk⟩
 clear hless hswap hH ha hp
 go_enter L.f15,BodyGt.n15_ntmps ρ
 go_wp2
 refine wp_loop_rounds 1 ?_
 rw [rounds_succ]
 go_wp2_with (go_at_fn (ρ.f 29);refine hc.mono ?_;rintro e w1 ⟨rfl,hR⟩)
 refine wp_loop_rounds 1 ?_
 rw [rounds_succ]
 go_wp2
 all_goals first|(exfalso;omega)|(go_end0;exact⟨rfl,hR⟩)
theorem wb(L:LaysGt.n8 P ρ)(t e:TypeId)(i ie:TypeInfo)(hi:P.info? t=some i)(hd:i.desc= .slice e)(hpk:P.packed t=false)(hie:P.info? e=some ie)(ke:Nat)(hke:∀w,(Extern.Rtype.kind e).run P w= .ok ke w)
  (hs1:ie.size=1) (hagg:∀w,(isAgg e).run P w= .ok false w) (enc:α->Value) (h1:∀x,(enc x).oneCell'=true) (lt:α->α->Bool) (p:α->Prop) (g:Nat) (lb:Array Value)
  (eg:∀args w,(callFunc g args).run P w= .ok (.enter g args) w) (blk off c:Nat) (d:Array α) (h2:2<=d.size) (h20:d.size<20)
  (f:Nat) (hf:P.funcs.findIdx? (·.name== "internal/reflectlite" ++ ".Swapper$" ++toString (swapperK d.size ie ke))=some f)
  (gS:Bool) (hx:∀args W,(callFunc f args).run P W=((Extern.ReflectliteSwapper.swap gS args).run P W).andThen fun v w'=> .ok (.value v) w')
  (w:World) (hless:tF P g lb enc lt p blk off d.size w) (hp:∀i,i<d.size->p d[i]!) (hH:Holds enc w blk off d) (hblk:blk<w.heap.size):
  Calls P (ρ.f 8) #[.iface t (.slice (some ⟨blk,off,none⟩) d.size c),.func (.func g) #[] lb] w fun e w'=>
   e= .returned (.tuple #[])/\kF enc w blk off (Sort.insertionSort lt d 0 d.size) w':=by
 refine Any.sort_SliceStable_of_stable L t e i ie hi hd hpk hie ke hke _ d.size c (by omega) f hf (.func g) #[] lb w _ ?_
 have hB:sliceBound P e ie ke (some ⟨blk,off,none⟩) d.size c= #[.slice (some ⟨blk,off,none⟩) d.size c,typeHandle P e]:=by
  unfold sliceBound;rw [if_neg (swapperK_gt _ _ _ h2)]
 rw [hB]
 unfold stableWorld
 have ha:blk<(w.alloc (.cells #[.slice (some ⟨blk,off,none⟩) d.size c] t)).heap.size:=by rw [World.size_alloc];omega
 have hb:Holds enc (w.alloc (.cells #[.slice (some ⟨blk,off,none⟩) d.size c] t)) blk off d:=by rw [alloc_eq_grow];exact holds_grow enc w _ blk off d hblk hH
 refine(uC (P:=P) (ρ:=ρ) {L with} enc lt p g lb f _ blk off d _ eg ((hless.alloc hblk).alloc ha)
  (swapSwaps_of_literal gS f hx e ie hie hs1 hagg enc h1 blk off d.size c) hp (by rw [alloc_eq_grow _ (.cells #[.pointer _,.pointer _,.int .u64 151] _)];exact holds_grow enc _ _ blk off d ha hb) (by rw [World.size_alloc];omega) h20).mono ?_
 rintro e w' ⟨rfl,hR⟩
 exact⟨rfl,(hR.base ha).base hblk⟩
end Go.Proofs.YtkicjdeddpihaaaGreat
