/- The library's stable sort of a short row, with a comparison that may lay blocks. -/
import Derived.Shelf.GgSortMore.Stable
import Derived.Below
import Derived.Test.YtckchgoblpgpbaaGreatJ5ax
set_option linter.unusedVariables false
set_option linter.unusedSimpArgs false
set_option maxHeartbeats 8000000
namespace Go.Proofs.YtckchgoblpgpbaaGreat
open Go.ChangeShapes Go.WideShapes Go.ChangeAt Go.RowKit Am Go.Proofs.Tryz
set_option maxRecDepth 100000
def jF(s:aj):Bool:=decide (s.dir=1)||decide (s.dir=3)
def lh(s:aj)(rtl:Bool):Bool:=if s.dir=1 then rtl else if s.dir=3 then !rtl else decide (s.dir=4)
def lx(s:aj)(rtl:Bool):Bool:=xor (decide (s.wrap=3)) (rtl&& !jF s)
def sd1(row gg:Bool):Int:=if row then(if gg then 2 else 0)else(if gg then 3 else 1)
def sd2(row gg:Bool):Int:=if row then(if gg then 0 else 2)else(if gg then 1 else 3)
def zy(s k:aj):Int:=if(if k.self=0 then s.items else k.self)=5/\jF s=false then 2 else(if k.self=0 then s.items else k.self)
def De(inner at_ size:Int)(gg:Bool):Int:=if gg then wrap64 (wrap64 (inner-at_)-size)else at_
def jd(s:aj)(wide:Bool):Int:=if wide then cl s.colGap else cl s.rowGap
def u4(m:bg)(sd:Int)(rtl:Bool):Bool:=decide ((nh m sd rtl).kind=3)
def tak(s:aI)(n:Int):Int:=if s.mode=3\/(s.mode=2/\s.n<n)then cl s.n else cl n
def ko(s:aI):Int:=if s.mode=2\/s.mode=3 then s.n else-1
def Cb(s:aI):aI:=if s.mode=3 then⟨2,s.n⟩else s
def knS(s:aI):Int:=if s.mode=3 then s.n else-1
def u0(c:Int):Int:=if c=3 then 2 else if c=4 then 3 else if c=5 then 4 else if c=6 then 5 else 1
def tA(x:ar):Bool:=rng x.size 0 1048576&&(rng x.base 0 1048576&&(rng x.before (-1048576) 1048576&&(rng x.behind (-1048576) 1048576&&rng x.align 1 5)))
def onB(x:ar):Bool:=decide (x.align=5)&&(!x.autoBefore&& !x.autoBehind)
def yv(x:ar):Bool:=decide (x.align=1)&&(!x.autoBefore&& !x.autoBehind)
def Ed(x:ar)(cross base:Int):Int:=
 if tA x=false then 0 else
 let free:=wrap64 (wrap64 (wrap64 (cross-x.size)-x.before)-x.behind)
 if x.autoBefore||x.autoBehind then(if free<=0\/x.autoBefore=false then x.before else if x.autoBehind then wrap64 (x.before+fdv free 2)else wrap64 (x.before+free))
 else if x.align=3 then wrap64 (x.before+free)else if x.align=4 then wrap64 (x.before+fdv free 2)else if x.align=5 then wrap64 (base-x.base)else x.before
theorem gD(s:aj):PC0 205 [.agg (lc (aj.c s))] (.t (abl (jF s))):=by
 refine ae (aJ f205) ay func205 fun g F hg hF=> ?_
 cbv
 repeat'(first|(split<;>rename_i hh<;>(try rw [hh])<;>(try simp only [da hg]at hh)<;>cbv))
 all_goals exact bk hF (by(try simp only [bj hg,fT hg,zqn]);clear hF hg;simp_all [jF])
theorem gI(s:aj):PC0 229 [.agg (lc (aj.c s))] (.t (abl (jF s))):=by
 refine ae (aJ f229) ay func229 fun g F hg hF=> ?_
 cbv
 repeat'(first|(split<;>rename_i hh<;>(try rw [hh])<;>(try simp only [da hg]at hh)<;>cbv))
 all_goals exact bk hF (by(try simp only [bj hg,fT hg,zqn]);clear hF hg;simp_all [jF])
theorem kN(s:aj)(rtl:Bool):PC0 223 [.agg (lc (aj.c s)),abl rtl] (.t (abl (lh s rtl))):=by
 cases rtl<;>(refine ae (aJ f223) ay func223 fun g F hg hF=> ?_;cbv;repeat'(first|(split<;>rename_i hh<;>(try rw [hh])<;>(try simp only [da hg]at hh)<;>cbv)))
 all_goals exact bk hF (by(try simp only [bj hg,fT hg,zqn]);clear hF hg;simp_all [lh])
theorem lr(s:aj)(rtl:Bool):PC0 189 [.agg (lc (aj.c s)),abl rtl] (.t (abl (lh s rtl))):=by
 cases rtl<;>(refine ae (aJ f189) ay func189 fun g F hg hF=> ?_;cbv;repeat'(first|(split<;>rename_i hh<;>(try rw [hh])<;>(try simp only [da hg]at hh)<;>cbv)))
 all_goals exact bk hF (by(try simp only [bj hg,fT hg,zqn]);clear hF hg;simp_all [lh])
theorem jY(s:aj)(rtl:Bool):PC0 225 [.agg (lc (aj.c s)),abl rtl] (.t (abl (lx s rtl))):=by
 have c1:=gD s
 cases rtl<;>(refine ae (aJ f225) ay func225 fun g F hg hF=> ?_;cbv;repeat'(first|(refine bd hg c1 rfl (fun R0 ha=> ?_);cases R0<;>cbv)|(split<;>rename_i hh<;>(try rw [hh])<;>(try simp only [da hg]at hh)<;>cbv)))
 all_goals exact bk hF (by(try simp only [bj hg,fT hg,zqn]);clear hF hg;simp_all [lx])
theorem ki(s:aj)(rtl:Bool):PC0 191 [.agg (lc (aj.c s)),abl rtl] (.t (abl (lx s rtl))):=by
 have c1:=gI s
 cases rtl<;>(refine ae (aJ f191) ay func191 fun g F hg hF=> ?_;cbv;repeat'(first|(refine bd hg c1 rfl (fun R0 ha=> ?_);cases R0<;>cbv)|(split<;>rename_i hh<;>(try rw [hh])<;>(try simp only [da hg]at hh)<;>cbv)))
 all_goals exact bk hF (by(try simp only [bj hg,fT hg,zqn]);clear hF hg;simp_all [lx])
theorem kI(row gg:Bool):PC0 313 [abl row,abl gg] (.tup [ai (sd1 row gg),ai (sd2 row gg)]):=by
 cases row<;>cases gg<;>(refine ae (aJ f313) ay func313 fun g F hg hF=> ?_;cbv)
 all_goals exact qQ hF (by exact⟨rfl,rfl⟩)
theorem mu(row gg:Bool):PC0 282 [abl row,abl gg] (.tup [ai (sd1 row gg),ai (sd2 row gg)]):=by
 cases row<;>cases gg<;>(refine ae (aJ f282) ay func282 fun g F hg hF=> ?_;cbv)
 all_goals exact qQ hF (by exact⟨rfl,rfl⟩)
theorem oV(s:aj)(rtl:Bool):PC0 293 [.agg (lc (aj.c s)),abl rtl] (.tup [ai (sd1 (jF s) (lh s rtl)),ai (sd2 (jF s) (lh s rtl))]):=by
 have c1:=gD s
 have c2:=kN s rtl
 have c3:=kI
 refine ae (aJ f293) ay func293 fun g F hg hF=> ?_
 cbv
 repeat'(first|(refine bd hg c1 rfl (fun R0 ha=> ?_);cases R0<;>cbv)|(refine bd hg c2 rfl (fun R0 ha=> ?_);cases R0<;>cbv)|(refine wl hg (c3 _ _) rfl (fun R0 R1 ha hb=> ?_);cbv)|(split<;>rename_i hh<;>(try rw [hh])<;>(try simp only [da hg]at hh)<;>cbv))
 all_goals exact qQ hF (by subst_vars;simp_all)
theorem ka(s:aj)(rtl:Bool):PC0 232 [.agg (lc (aj.c s)),abl rtl] (.tup [ai (sd1 (jF s) (lh s rtl)),ai (sd2 (jF s) (lh s rtl))]):=by
 have c1:=gI s
 have c2:=lr s rtl
 have c3:=mu
 refine ae (aJ f232) ay func232 fun g F hg hF=> ?_
 cbv
 repeat'(first|(refine bd hg c1 rfl (fun R0 ha=> ?_);cases R0<;>cbv)|(refine bd hg c2 rfl (fun R0 ha=> ?_);cases R0<;>cbv)|(refine wl hg (c3 _ _) rfl (fun R0 R1 ha hb=> ?_);cbv)|(split<;>rename_i hh<;>(try rw [hh])<;>(try simp only [da hg]at hh)<;>cbv))
 all_goals exact qQ hF (by subst_vars;simp_all)
theorem nZ(s:aj)(rtl:Bool):PC0 292 [.agg (lc (aj.c s)),abl rtl] (.tup [ai (sd1 (!jF s) (lx s rtl)),ai (sd2 (!jF s) (lx s rtl))]):=by
 have c1:=gD s
 have c2:=jY s rtl
 have c3:=kI
 refine ae (aJ f292) ay func292 fun g F hg hF=> ?_
 cbv
 repeat'(first|(refine bd hg c1 rfl (fun R0 ha=> ?_);cases R0<;>cbv)|(refine bd hg c2 rfl (fun R0 ha=> ?_);cases R0<;>cbv)|(refine wl hg (c3 _ _) rfl (fun R0 R1 ha hb=> ?_);cbv)|(split<;>rename_i hh<;>(try rw [hh])<;>(try simp only [da hg]at hh)<;>cbv))
 all_goals exact qQ hF (by subst_vars;simp_all)
theorem jo(s:aj)(rtl:Bool):PC0 239 [.agg (lc (aj.c s)),abl rtl] (.tup [ai (sd1 (!jF s) (lx s rtl)),ai (sd2 (!jF s) (lx s rtl))]):=by
 have c1:=gI s
 have c2:=ki s rtl
 have c3:=mu
 refine ae (aJ f239) ay func239 fun g F hg hF=> ?_
 cbv
 repeat'(first|(refine bd hg c1 rfl (fun R0 ha=> ?_);cases R0<;>cbv)|(refine bd hg c2 rfl (fun R0 ha=> ?_);cases R0<;>cbv)|(refine wl hg (c3 _ _) rfl (fun R0 R1 ha hb=> ?_);cbv)|(split<;>rename_i hh<;>(try rw [hh])<;>(try simp only [da hg]at hh)<;>cbv))
 all_goals exact qQ hF (by subst_vars;simp_all)
theorem ml(s k:aj):PC0 265 [.agg (lc (aj.c s)),.agg (lc (aj.c k))] (.i (zy s k)):=by
 have c1:=gD s
 refine ae (aJ f265) ay func265 fun g F hg hF=> ?_
 cbv
 repeat'(first|(refine bz hg c1 rfl (fun R0 ha=> ?_);cases R0<;>cbv)|(split<;>rename_i hh<;>(try rw [hh])<;>(try simp only [da hg]at hh)<;>cbv))
 all_goals exact aV hF (by simp only [zy];grind)
theorem mz(s k:aj):PC0 243 [.agg (lc (aj.c s)),.agg (lc (aj.c k))] (.i (zy s k)):=by
 have c1:=gI s
 refine ae (aJ f243) ay func243 fun g F hg hF=> ?_
 cbv
 repeat'(first|(refine bz hg c1 rfl (fun R0 ha=> ?_);cases R0<;>cbv)|(split<;>rename_i hh<;>(try rw [hh])<;>(try simp only [da hg]at hh)<;>cbv))
 all_goals exact aV hF (by simp only [zy];grind)
theorem kJ(i a s:Int)(b:Bool):PC0 222 [ai i,ai a,ai s,abl b] (.i (De i a s b)):=by
 cases b<;>(refine ae (aJ f222) ay func222 fun g F hg hF=> ?_;cbv)
 all_goals exact aV hF (by(try simp only [bZ hg]);rfl)
theorem lq(i a s:Int)(b:Bool):PC0 187 [ai i,ai a,ai s,abl b] (.i (De i a s b)):=by
 cases b<;>(refine ae (aJ f187) ay func187 fun g F hg hF=> ?_;cbv)
 all_goals exact aV hF (by(try simp only [bZ hg]);rfl)
theorem gF(s:aj)(w:Bool):PC0 211 [.agg (lc (aj.c s)),abl w] (.i (jd s w)):=by
 cases w<;>(refine ae (aJ f211) ay func211 fun g F hg hF=> ?_;cbv;repeat'(first|(refine ba hg (aG _) rfl (fun R0 ha=> ?_);cbv)|(split<;>rename_i hh<;>(try rw [hh])<;>(try simp only [da hg]at hh)<;>cbv)))
 all_goals exact aV hF (by subst_vars;rfl)
theorem iJ(s:aj)(w:Bool):PC0 177 [.agg (lc (aj.c s)),abl w] (.i (jd s w)):=by
 cases w<;>(refine ae (aJ f177) ay func177 fun g F hg hF=> ?_;cbv;repeat'(first|(refine ba hg (aK _) rfl (fun R0 ha=> ?_);cbv)|(split<;>rename_i hh<;>(try rw [hh])<;>(try simp only [da hg]at hh)<;>cbv)))
 all_goals exact aV hF (by subst_vars;rfl)
theorem kP(s:bg)(sd:Int)(rtl:Bool):PC0 294 [.agg (lc (bg.c s)),ai sd,abl rtl] (.t (abl (u4 s sd rtl))):=by
 have c1:=gW s sd rtl
 refine ae (aJ f294) ay func294 fun g F hg hF=> ?_
 cbv
 repeat'(first|(refine l8 hg c1 rfl (fun R0 R1 ha hb=> ?_);cbv)|(split<;>rename_i hh<;>(try rw [hh])<;>(try simp only [da hg]at hh)<;>cbv))
 all_goals exact bk hF (by(try simp only [bj hg]);subst_vars;simp [u4];try exact(zqn _ _))
theorem dJ(s:bg)(sd:Int)(rtl:Bool):PC0 235 [.agg (lc (bg.c s)),ai sd,abl rtl] (.t (abl (u4 s sd rtl))):=by
 have c1:=ib s sd rtl
 refine ae (aJ f235) ay func235 fun g F hg hF=> ?_
 cbv
 repeat'(first|(refine l8 hg c1 rfl (fun R0 R1 ha hb=> ?_);cbv)|(split<;>rename_i hh<;>(try rw [hh])<;>(try simp only [da hg]at hh)<;>cbv))
 all_goals exact bk hF (by(try simp only [bj hg]);subst_vars;simp [u4];try exact(zqn _ _))
theorem dQ(m n k:Int):PC0 151 [.agg [.J m,.J n],ai k] (.i (tak ⟨m,n⟩ k)):=by
 refine ae (aJ f151) ay func151 fun g F hg hF=> ?_
 cbv
 repeat'(first|(refine ba hg (aG _) rfl (fun R0 ha=> ?_);cbv)|(split<;>rename_i hh<;>(try rw [hh])<;>(try simp only [da hg]at hh)<;>cbv))
 all_goals exact aV hF (by simp only [tak];subst_vars;grind)
theorem fH(m n k:Int):PC0 178 [.agg [.J m,.J n],ai k] (.i (tak ⟨m,n⟩ k)):=by
 refine ae (aJ f178) ay func178 fun g F hg hF=> ?_
 cbv
 repeat'(first|(refine ba hg (aK _) rfl (fun R0 ha=> ?_);cbv)|(split<;>rename_i hh<;>(try rw [hh])<;>(try simp only [da hg]at hh)<;>cbv))
 all_goals exact aV hF (by simp only [tak];subst_vars;grind)
theorem gX(m n:Int):PC0 150 [.agg [.J m,.J n]] (.i (ko ⟨m,n⟩)):=by
 refine ae (aJ f150) ay func150 fun g F hg hF=> ?_
 cbv
 repeat'(first|(split<;>rename_i hh<;>(try rw [hh])<;>(try simp only [da hg]at hh)<;>cbv))
 all_goals exact aV hF (by simp only [ko];grind)
theorem nF(m n:Int):PC0 172 [.agg [.J m,.J n]] (.i (ko ⟨m,n⟩)):=by
 refine ae (aJ f172) ay func172 fun g F hg hF=> ?_
 cbv
 repeat'(first|(split<;>rename_i hh<;>(try rw [hh])<;>(try simp only [da hg]at hh)<;>cbv))
 all_goals exact aV hF (by simp only [ko];grind)
theorem kO(m n:Int):PC0 295 [.agg [.J m,.J n]] (.t (agP (Cb ⟨m,n⟩))):=by
 refine ae (aJ f295) ay func295 fun g F hg hF=> ?_
 cbv
 repeat'(first|(split<;>rename_i hh<;>(try rw [hh])<;>(try simp only [da hg]at hh)<;>cbv))
 all_goals exact l7 hF (by simp only [Cb];grind)
theorem lu(m n:Int):PC0 283 [.agg [.J m,.J n]] (.t (agP (Cb ⟨m,n⟩))):=by
 refine ae (aJ f283) ay func283 fun g F hg hF=> ?_
 cbv
 repeat'(first|(split<;>rename_i hh<;>(try rw [hh])<;>(try simp only [da hg]at hh)<;>cbv))
 all_goals exact l7 hF (by simp only [Cb];grind)
theorem dh(m n:Int):PC0 207 [.agg [.J m,.J n]] (.i (knS ⟨m,n⟩)):=by
 refine ae (aJ f207) ay func207 fun g F hg hF=> ?_
 cbv
 repeat'(first|(split<;>rename_i hh<;>(try rw [hh])<;>(try simp only [da hg]at hh)<;>cbv))
 all_goals exact aV hF (by simp only [knS];grind)
theorem eJ(m n:Int):PC0 181 [.agg [.J m,.J n]] (.i (knS ⟨m,n⟩)):=by
 refine ae (aJ f181) ay func181 fun g F hg hF=> ?_
 cbv
 repeat'(first|(split<;>rename_i hh<;>(try rw [hh])<;>(try simp only [da hg]at hh)<;>cbv))
 all_goals exact aV hF (by simp only [knS];grind)
theorem nV(c:Int):PC0 274 [ai c] (.i (u0 c)):=by
 refine ae (aJ f274) ay func274 fun g F hg hF=> ?_
 cbv
 repeat'(first|(split<;>rename_i hh<;>(try rw [hh])<;>(try simp only [da hg]at hh)<;>cbv))
 all_goals exact aV hF (by simp only [u0];grind)
theorem o9(c:Int):PC0 248 [ai c] (.i (u0 c)):=by
 refine ae (aJ f248) ay func248 fun g F hg hF=> ?_
 cbv
 repeat'(first|(split<;>rename_i hh<;>(try rw [hh])<;>(try simp only [da hg]at hh)<;>cbv))
 all_goals exact aV hF (by simp only [u0];grind)
theorem mX(x:ar):PC0 278 [.agg (lc (ar.c x))] (.t (abl (tA x))):=by
 refine ae (aJ f278) ay func278 fun g F hg hF=> ?_
 cbv
 repeat'(first|(refine bz hg (bi _ _ _) rfl (fun R0 ha=> ?_);cases R0<;>cbv)|(split<;>rename_i hh<;>(try rw [hh])<;>(try simp only [da hg]at hh)<;>cbv))
 all_goals exact bk hF (by(try simp only [bj hg,fT hg,zqn]);clear hF hg;simp_all [tA])
theorem nC(x:ar):PC0 253 [.agg (lc (ar.c x))] (.t (abl (tA x))):=by
 refine ae (aJ f253) ay func253 fun g F hg hF=> ?_
 cbv
 repeat'(first|(refine bz hg (bQ _ _ _) rfl (fun R0 ha=> ?_);cases R0<;>cbv)|(split<;>rename_i hh<;>(try rw [hh])<;>(try simp only [da hg]at hh)<;>cbv))
 all_goals exact bk hF (by(try simp only [bj hg,fT hg,zqn]);clear hF hg;simp_all [tA])
theorem iR(x:ar):PC0 279 [.agg (lc (ar.c x))] (.t (abl (x.autoBefore||x.autoBehind))):=by
 obtain⟨s,b,c,p,q,a,e⟩:=x
 cases p<;>cases q<;>(refine ae (aJ f279) ay func279 fun g F hg hF=> ?_;cbv)
 all_goals exact bk hF rfl
theorem nJ(x:ar):PC0 252 [.agg (lc (ar.c x))] (.t (abl (onB x))):=by
 obtain⟨s,b,c,p,q,a,e⟩:=x
 cases p<;>cases q<;>(refine ae (aJ f252) ay func252 fun g F hg hF=> ?_;cbv;repeat'(first|(split<;>rename_i hh<;>(try rw [hh])<;>(try simp only [da hg]at hh)<;>cbv)))
 all_goals exact bk hF (by(try simp only [bj hg,fT hg,zqn]);clear hF hg;simp_all [onB,yv])
theorem v7(x:ar):PC0 182 [.agg (lc (ar.c x))] (.t (abl (yv x))):=by
 obtain⟨s,b,c,p,q,a,e⟩:=x
 cases p<;>cases q<;>(refine ae (aJ f182) ay func182 fun g F hg hF=> ?_;cbv;repeat'(first|(split<;>rename_i hh<;>(try rw [hh])<;>(try simp only [da hg]at hh)<;>cbv)))
 all_goals exact bk hF (by(try simp only [bj hg,fT hg,zqn]);clear hF hg;simp_all [onB,yv])
theorem m7(x:ar):PC0 277 [.agg (lc (ar.c x))] (.t (abl (onB x))):=by
 have c1:=iR x
 obtain⟨s,b,c,p,q,a,e⟩:=x
 cases p<;>cases q<;>(refine ae (aJ f277) ay func277 fun g F hg hF=> ?_;cbv;repeat'(first|(refine bz hg c1 rfl (fun R0 ha=> ?_);cases R0<;>cbv)|(split<;>rename_i hh<;>(try rw [hh])<;>(try simp only [da hg]at hh)<;>cbv)))
 all_goals exact bk hF (by(try simp only [bj hg,fT hg,zqn]);clear hF hg c1;simp_all [onB,yv])
theorem oD(x:ar):PC0 269 [.agg (lc (ar.c x))] (.t (abl (yv x))):=by
 have c1:=iR x
 obtain⟨s,b,c,p,q,a,e⟩:=x
 cases p<;>cases q<;>(refine ae (aJ f269) ay func269 fun g F hg hF=> ?_;cbv;repeat'(first|(refine bz hg c1 rfl (fun R0 ha=> ?_);cases R0<;>cbv)|(split<;>rename_i hh<;>(try rw [hh])<;>(try simp only [da hg]at hh)<;>cbv)))
 all_goals exact bk hF (by(try simp only [bj hg,fT hg,zqn]);clear hF hg c1;simp_all [onB,yv])
theorem mi(a b:Int):PC0 264 [ai a,ai b] (.i (if b<a then b else a)):=by
 refine ae (aJ f264) ay func264 fun g F hg hF=> ?_
 cbv
 repeat'(first|(split<;>rename_i hh<;>(try rw [hh])<;>(try simp only [da hg]at hh)<;>cbv))
 all_goals exact aV hF (by grind)
theorem iQ(x:ar):PC0 271 [.agg (lc (ar.c x))] (.i (wrap64 (x.before+x.behind))):=by
 refine ae (aJ f271) ay func271 fun g F hg hF=> ?_
 cbv
 all_goals exact aV hF (by rw [aN hg])
theorem m5(x:ar)(cross base:Int):PC0 224 [.agg (lc (ar.c x)),ai cross,ai base] (.i (Ed x cross base)):=by
 have c1:=iR x
 have c2:=mX x
 obtain⟨s,b,c,p,q,a,e⟩:=x
 cases p<;>cases q<;>(refine ae (aJ f224) ay func224 fun g F hg hF=> ?_;cbv;repeat'(first|(refine bz hg c1 rfl (fun R0 ha=> ?_);cases R0<;>cbv)|(refine bz hg c2 rfl (fun R0 ha=> ?_);cases R0<;>cbv)|(refine aB hg (bJ _ _) rfl (fun R0 ha=> ?_);cbv)|(split<;>rename_i hh<;>(try rw [hh])<;>(try simp only [da hg]at hh)<;>cbv)))
 all_goals exact aV hF (by(try simp only [bZ hg,aN hg]at *);(try clear c1);clear c2 hF hg;simp only [Ed];grind)
theorem nH(x:ar)(cross base:Int):PC0 190 [.agg (lc (ar.c x)),ai cross,ai base] (.i (Ed x cross base)):=by
 have c2:=nC x
 obtain⟨s,b,c,p,q,a,e⟩:=x
 cases p<;>cases q<;>(refine ae (aJ f190) ay func190 fun g F hg hF=> ?_;cbv;repeat'(first|(refine bz hg c2 rfl (fun R0 ha=> ?_);cases R0<;>cbv)|(refine aB hg (bK _ _) rfl (fun R0 ha=> ?_);cbv)|(split<;>rename_i hh<;>(try rw [hh])<;>(try simp only [da hg]at hh)<;>cbv)))
 all_goals exact aV hF (by(try simp only [bZ hg,aN hg]at *);(try clear c1);clear c2 hF hg;simp only [Ed];grind)
end Go.Proofs.YtckchgoblpgpbaaGreat
namespace Go.Proofs.YtckchgoblpgpbaaGreat
open Go.Shelf Go.RowKit Go.Lib Go.Sort Go.Proofs
variable {P:Program}{ρ:Ren}{α:Type}[Inhabited α]
structure kq(enc:α->Value)(w:World)(blk off:Nat)(dk:Array α)(W:World):Prop where
 os:W.os=w.os
 tape:W.tape=w.tape
 output:W.output=w.output
 size:w.heap.size<=W.heap.size
 at_:∀b,b<w.heap.size->W.heap[b]? =(putRow enc w blk off dk).heap[b]?
section
variable {enc:α->Value}{w W W':World}{blk off:Nat}{d dk:Array α}
theorem kq.below(h:kq enc w blk off dk W)(hb:Below W.heap.size W W'):kq enc w blk off dk W':=
 ⟨hb.os.trans h.os,hb.tape.trans h.tape,hb.output.trans h.output,Nat.le_trans h.size hb.size,fun b hl=>(hb.block b (Nat.lt_of_lt_of_le hl h.size)).trans (h.at_ b hl)⟩
theorem kq.start(hH:Holds enc w blk off d):kq enc w blk off d w:=⟨rfl,rfl,rfl,Nat.le_refl _,fun b _=>by rw [putRow_self enc w blk off d hH]⟩
theorem kq.holds(h:kq enc w blk off dk W)(hblk:blk<w.heap.size)(hH:Holds enc w blk off d)(hs:dk.size=d.size):Holds enc W blk off dk:=fun j hj=>by
 have h1:=holds_putRow enc w blk off d dk hH hs j hj
 exact⟨(World.cell?_of_block (w:=putRow enc w blk off dk) (w':=W) (a:=⟨blk,off+j,none⟩) (h.at_ blk hblk)).trans h1.1,(World.frozen?_of_block (w:=putRow enc w blk off dk) (w':=W) (a:=⟨blk,off+j,none⟩) (h.at_ blk hblk)).trans h1.2⟩
theorem iB{b:Nat}(hb:b≠blk):(putRow enc w blk off dk).heap[b]? =w.heap[b]? :=by
 simp only [putRow,mapBlock,Array.getElem?_modify]
 rw [if_neg (fun e=>hb e.symm)]
theorem kq.cell(h:kq enc w blk off dk W){b k:Nat}(hb:b<w.heap.size)(hne:b≠blk):W.cell? ⟨b,k,none⟩=w.cell? ⟨b,k,none⟩:=
 World.cell?_of_block (w:=w) (w':=W) (a:=⟨b,k,none⟩) ((h.at_ b hb).trans (iB hne))
theorem sG(W:World)(a:Addr)(u:Value)(b:Nat):∃f:Obj->Obj,∀X:World,(X.setCell a u).heap[b]? =if a.block=b then(X.heap[b]?).map f else X.heap[b]? :=by
 exact⟨_,fun X=>by simp only [World.setCell,Array.getElem?_modify];rfl⟩
theorem kq.swap(h:kq enc w blk off dk W)(hblk:blk<w.heap.size){i j:Nat}(hi:i<dk.size)(hj:j<dk.size):
  kq enc w blk off (swp dk i j) ((W.setCell ⟨blk,off+i,none⟩ (enc dk[j]!)).setCell ⟨blk,off+j,none⟩ (enc dk[i]!)):=by
 refine⟨h.os,h.tape,h.output,by simp only [World.setCell,Array.size_modify];exact h.size,fun b hb=> ?_⟩
 rw [<-putRow_swp enc w blk off dk i j hi hj]
 obtain⟨f,hf⟩:=sG W ⟨blk,off+j,none⟩ (enc dk[i]!) b
 obtain⟨g,hg⟩:=sG W ⟨blk,off+i,none⟩ (enc dk[j]!) b
 rw [hf,hf,hg,hg,h.at_ b hb]
theorem kq.base{o:Obj}(hblk:blk<w.heap.size)(h:kq enc (w.alloc o) blk off dk W):kq enc w blk off dk W:=by
 refine⟨h.os,h.tape,h.output,Nat.le_trans (by simp) h.size,fun b hb=> ?_⟩
 rw [h.at_ b (by rw [World.size_alloc];omega)]
 simp only [putRow,mapBlock,Array.getElem?_modify]
 rw [Below.heap_alloc w o b hb]
end
def sw(P:Program)(g:Nat)(lb:Array Value)(enc:α->Value)(lt:α->α->Bool)(p:α->Prop)(blk off size:Nat)(w:World):Prop:=
 ∀(W:World)(dk:Array α),dk.size=size->(∀i,i<size->p dk[i]!)->kq enc w blk off dk W->∀i j:Nat,i<size->j<size->
  Calls P g (#[.int .i64 i,.int .i64 j]++lb) W fun e w'=>e= .returned (.bool (lt dk[i]! dk[j]!))/\Below W.heap.size W w'
theorem sw.alloc{g:Nat}{lb:Array Value}{enc:α->Value}{lt:α->α->Bool}{p:α->Prop}{blk off size:Nat}{w:World}{o:Obj}(hblk:blk<w.heap.size)(h:sw P g lb enc lt p blk off size w):sw P g lb enc lt p blk off size (w.alloc o):=
 fun W dk hs hp hW i j hi hj=>h W dk hs hp (hW.base hblk) i j hi hj
theorem DS{p:α->Prop}{d:Array α}{i j:Nat}(hi:i<d.size)(hj:j<d.size)(h:∀k,k<d.size->p d[k]!):∀k,k<d.size->p (swp d i j)[k]! :=fun k hk=>by
 unfold swp
 by_cases h1:k=j
 ·subst h1
  rw [getElem!_set_same _ _ _ (by simpa using hj)];exact h i hi
 ·rw [getElem!_set_other _ _ _ _ h1]
  by_cases h2:k=i
  ·subst h2
   rw [getElem!_set_same _ _ _ hi];exact h j hj
  ·rw [getElem!_set_other _ _ _ _ h2];exact h k hk
set_option maxRecDepth 100000 in
theorem lZ(L:LaysGg.n26 P ρ)(enc:α->Value)(lt:α->α->Bool)(p:α->Prop)(g:Nat)(lb:Array Value)(sf:Nat)(sb:Array Value)(blk off a b:Nat)(d:Array α)(w:World)
  (eg:∀args w,(callFunc g args).run P w= .ok (.enter g args) w) (hless:sw P g lb enc lt p blk off d.size w) (hswap:SwapSwaps P sf sb enc blk off d.size)
  (hp:∀i,i<d.size->p d[i]!)
  (hH:Holds enc w blk off d) (hblk:blk<w.heap.size) (hab:a<=b) (hb:b<=d.size) (hsz:d.size<4611686018427387904):
  Calls P (ρ.f 26) #[.agg #[.func (.func g) #[] lb,.func (.func sf) #[] sb],.int .i64 a,.int .i64 b] w fun e w'=>
   e= .returned (.tuple #[])/\kq enc w blk off (Sort.insertionSort lt d a b) w':=by
 have hy:=L.mixed;have t0:=L.t0;have a0:=L.a0;have z0:=L.z0;have v0:=L.v0;have t3:=L.t3;have a3:=L.a3;have z3:=L.z3;have v3:=L.v3;have t4:=L.t4;have a4:=L.a4;have z4:=L.z4;have v4:=L.v4;have hV:=L.t26;have hK:=L.a26;have h3:=L.z26;have h0:=L.v26;have hX:=L.t37;have hL:=L.a37;have h4:=L.z37;have h1:=L.v37;have hY:=L.t44;have hM:=L.a44;have h5:=L.z44;have h2:=L.v44
 have hZ:=run_underlying L.t44
 have hh:Holds enc (w.alloc (.cells #[.func (.func g) #[] lb,.func (.func sf) #[] sb] (ρ.t 44))) blk off d:=by rw [alloc_eq_grow];exact holds_grow enc w _ blk off d hblk hH
 have ha:=hless.alloc (o:= .cells #[.func (.func g) #[] lb,.func (.func sf) #[] sb] (ρ.t 44)) hblk
 have hc:blk<(w.alloc (.cells #[.func (.func g) #[] lb,.func (.func sf) #[] sb] (ρ.t 44))).heap.size:=by rw [World.size_alloc];omega
 have hv:=kq.start hh
 have fin:∀D W,kq enc (w.alloc (.cells #[.func (.func g) #[] lb,.func (.func sf) #[] sb] (ρ.t 44))) blk off D W->kq enc w blk off D W:=fun D W h=>h.base hblk
 have cc:∀k v,((w.alloc (.cells #[.func (.func g) #[] lb,.func (.func sf) #[] sb] (ρ.t 44)))).cell? ⟨w.heap.size,k,none⟩=some v->∀D W,kq enc (w.alloc (.cells #[.func (.func g) #[] lb,.func (.func sf) #[] sb] (ρ.t 44))) blk off D W->W.cell? ⟨w.heap.size,k,none⟩=some v:=fun k v h D W hW=>by
  rw [hW.cell (by rw [World.size_alloc];omega) (by omega)];exact h
 have hm:=cc 0 (.func (.func g) #[] lb) (by simp)
 have hn:=cc 1 (.func (.func sf) #[] sb) (by simp)
 clear cc
 obtain⟨w1,hw⟩:∃w1,w1=(w.alloc (.cells #[.func (.func g) #[] lb,.func (.func sf) #[] sb] (ρ.t 44))):=⟨_,rfl⟩
 rw [<-hw]at hh ha hc hv fin hm hn
 go_enter L.f26,BodyGg.n26_ntmps ρ
 go_wp2
 rw [<-hw]
 go_loopw [6] (fun vi wr=>∃(i:Nat)(dk:Array α),vi= .int .i64 i/\a<i/\i<=b+1/\dk.size=d.size/\(∀k,k<d.size->p dk[k]!)/\kq enc w1 blk off dk wr/\
   insOuter lt a b i dk=insOuter lt a b (a+1) d) (fun vi _=>b+1-(intOf vi).toNat)
 case atStart=>exact⟨a+1,d,by go_num,by omega,by omega,rfl,hp,hv,rfl⟩
 case round=>
  obtain⟨i,dk,rfl,hR,hT,hE,hu,hx,hO⟩:=hrel
  have HO:Hid (insOuter lt a b i dk=insOuter lt a b (a+1) d):=hO
  have HP:Hid (∀k,k<d.size->p dk[k]!):=hu
  have hg:Hid (kq enc w1 blk off dk wr):=hx
  have hJ:Hid (∀i,i<d.size->p d[i]!):=hp
  have HL:Hid (sw P g lb enc lt p blk off d.size w1):=ha
  have hG:Hid (sw P g lb enc lt p blk off d.size w):=hless
  have hi:Hid (∀D W,kq enc w1 blk off D W->W.cell? ⟨w.heap.size,0,none⟩=some (.func (.func g) #[] lb)):=hm
  have hj:Hid (∀D W,kq enc w1 blk off D W->W.cell? ⟨w.heap.size,1,none⟩=some (.func (.func sf) #[] sb)):=hn
  have HF:Hid (∀D W,kq enc w1 blk off D W->kq enc w blk off D W):=fin
  clear hO hu hx hp ha hless hm hn fin
  have hB:=hi.out _ _ hg.out
  have hC:=hj.out _ _ hg.out
  go_wp2
  ·
   go_loopw [7] (fun vj hF=>∃(j:Nat)(dj:Array α),vj= .int .i64 j/\a<=j/\j<=i/\dj.size=d.size/\(∀k,k<d.size->p dj[k]!)/\kq enc w1 blk off dj hF/\
     insInner lt a j dj=insInner lt a i dk) (fun vj _=>(intOf vj).toNat)
   case atStart=>exact⟨i,dk,rfl,by omega,Nat.le_refl _,hE,HP.out,hg.out,rfl⟩
   case round=>
    clear hB hC
    obtain⟨j,dj,rfl,hS,hU,hd,ht,hf,hI⟩:=hrel
    have hr:i<b:=by assumption
    have hQ:=hf.holds hc hh hd
    have c0:=hi.out _ _ hf
    have c1:=hj.out _ _ hf
    have HW:Hid (kq enc w1 blk off dj wr):=hf
    have HI:Hid (insInner lt a j dj=insInner lt a i dk):=hI
    have hk:Hid (∀k,k<d.size->p dj[k]!):=ht
    clear hf hI ht
    have hz:(j<=a\/lt dj[j]! dj[j-1]! =false)->∀W,kq enc w1 blk off dj W->∃i' dk',Value.int .i64 ((i:Int)+1)= .int .i64 (i':Nat)/\a<i'/\i'<=b+1/\dk'.size=d.size/\(∀k,k<d.size->p dk'[k]!)/\
      kq enc w1 blk off dk' W/\insOuter lt a b i' dk'=insOuter lt a b (a+1) d:=fun hs W hW=>
     ⟨i+1,dj,by go_num,by omega,by omega,hd,hk.out,hW,
      by rw [<-HO.out,insOuter_go _ _ _ _ _ hr,<-HI.out,insInner_stop _ _ _ _ hs]⟩
    have hq:Hid _:=hz
    clear hz
    by_cases hja:a<j
    ·have hl:=HL.out wr dj hd hk.out HW.out j (j-1) (by omega) (by omega)
     rw [show(((j-1:Nat):Int))=(j:Int)-1 by omega]at hl
     cases hlv:lt dj[j]! dj[j-1]! with
     |true=>
      rw [hlv]at hl
      go_wp2_with (go_at_fn g;refine hl.mono ?_;rintro e w' ⟨rfl,hbw⟩;have he:=HW.out.below hbw;have hN:=hi.out _ _ he;have hP:=hj.out _ _ he;have hA:Hid (kq enc w1 blk off dj w'):=he;have ho:=he.holds hc hh hd;clear hbw he)
      have hs:=hswap w' dj ho hd j (j-1) (by omega) (by omega)
      rw [show(((j-1:Nat):Int))=(j:Int)-1 by omega]at hs
      rw [hs,Oper.upon_value]
      go_wp2
      go_roundw
      case rel=>
       (repeat apply Exists.intro)
       refine⟨⟨j-1,swp dj j (j-1),by congr 1<;>omega,by omega,by omega,by rw [size_swp];exact hd,?_,?_,?_⟩,by rw [zqu hr,show((j-1:Nat):Int)=(j:Int)-1 by omega]⟩
       ·have:=DS (i:=j) (j:=j-1) (d:=dj) (by omega) (by omega) (by rw [hd];exact hk.out)
        rw [hd]at this;exact this
       ·exact hA.out.swap hc (by omega) (by omega)
       ·rw [<-HI.out,insInner_go lt a j dj hja hlv]
      case measure=>simp [intOf];omega
     |false=>
      rw [hlv]at hl
      go_wp2_with (go_at_fn g;refine hl.mono ?_;rintro e w' ⟨rfl,hbw⟩)
      go_roundw
      case rel=>exact hq.out (Or.inr hlv) _ (HW.out.below hbw)
      case measure=>simp [intOf];omega
    ·go_wp2
     go_roundw
     case rel=>exact hq.out (Or.inl (by omega)) _ HW.out
     case measure=>simp [intOf];omega
  ·
   have hD:¬i<b:=by assumption
   go_end0
   exact⟨rfl,by unfold Sort.insertionSort;rw [<-HO.out,insOuter_stop _ _ _ _ _ hD];exact HF.out _ _ hg.out⟩
set_option maxRecDepth 100000 in
theorem tj(L:LaysGt.n15 P ρ)(enc:α->Value)(lt:α->α->Bool)(p:α->Prop)(g:Nat)(lb:Array Value)(sf:Nat)(sb:Array Value)(blk off:Nat)(d:Array α)(W:World)
  (eg:∀args w,(callFunc g args).run P w= .ok (.enter g args) w) (hless:sw P g lb enc lt p blk off d.size W) (hswap:SwapSwaps P sf sb enc blk off d.size)
  (hp:∀i,i<d.size->p d[i]!) (hH:Holds enc W blk off d) (hblk:blk<W.heap.size) (h20:d.size<20):
  Calls P (ρ.f 15) #[.agg #[.func (.func g) #[] lb,.func (.func sf) #[] sb],.int .i64 d.size] W fun e w'=>e= .returned (.tuple #[])/\kq enc W blk off (Sort.insertionSort lt d 0 d.size) w':=by
 have hb:=L.mixed;have t0:=L.t0;have a0:=L.a0;have z0:=L.z0;have v0:=L.v0;have t3:=L.t3;have a3:=L.a3;have z3:=L.z3;have v3:=L.v3;have t4:=L.t4;have a4:=L.a4;have z4:=L.z4;have v4:=L.v4;have hi:=L.t26;have hd:=L.a26;have hs:=L.z26;have hn:=L.v26;have hj:=L.t38;have he:=L.a38;have ht:=L.z38;have ho:=L.v38;have hk:=L.t42;have hf:=L.a42;have hu:=L.z42;have hq:=L.v42;have hl:=L.t47;have hg:=L.a47;have hv:=L.z47;have hr:=L.v47
 have hm:=run_underlying L.t42
 have hh:∀args w,(callFunc (ρ.f 29) args).run P w= .ok (.enter (ρ.f 29) args) w:=enters_of L.f29 (by kernel_rfl) rfl
 have LI:LaysGg.n26 P ρ.viaGt:=({L with}:LaysGt.n29 P ρ).elder
 have ha:Holds enc (W.alloc (.cells #[.func (.func g) #[] lb,.func (.func sf) #[] sb] (ρ.t 42))) blk off d:=by rw [alloc_eq_grow];exact holds_grow enc W _ blk off d hblk hH
 have hc:Calls P (ρ.f 29) #[.agg #[.func (.func g) #[] lb,.func (.func sf) #[] sb],.int .i64 (0:Nat),.int .i64 d.size] (W.alloc (.cells #[.func (.func g) #[] lb,.func (.func sf) #[] sb] (ρ.t 42))) fun e w'=>e= .returned (.tuple #[])/\kq enc W blk off (Sort.insertionSort lt d 0 d.size) w':=
  (lZ LI enc lt p g lb sf sb blk off 0 d.size d _ eg (hless.alloc hblk) hswap hp ha (by rw [World.size_alloc];omega) (Nat.zero_le _) (Nat.le_refl _) (by omega)).mono fun e w' h=>⟨h.1,h.2.base hblk⟩
 clear hless hswap hH ha hp
 go_enter L.f15,BodyGt.n15_ntmps ρ
 go_wp2
 refine wp_loop_rounds 1 ?_
 rw [rounds_succ]
 go_wp2_with (go_at_fn (ρ.f 29);refine hc.mono ?_;rintro e w1 ⟨rfl,hR⟩)
 refine wp_loop_rounds 1 ?_
 rw [rounds_succ]
 go_wp2
 all_goals first|(exfalso;omega)|(go_end0;exact⟨rfl,hR⟩)
theorem uX(L:LaysGt.n8 P ρ)(t e:TypeId)(i ie:TypeInfo)(hi:P.info? t=some i)(hd:i.desc= .slice e)(hpk:P.packed t=false)(hie:P.info? e=some ie)(ke:Nat)(hke:∀w,(Extern.Rtype.kind e).run P w= .ok ke w)
  (hs1:ie.size=1) (hagg:∀w,(isAgg e).run P w= .ok false w) (enc:α->Value) (h1:∀x,(enc x).oneCell'=true) (lt:α->α->Bool) (p:α->Prop) (g:Nat) (lb:Array Value)
  (eg:∀args w,(callFunc g args).run P w= .ok (.enter g args) w) (blk off c:Nat) (d:Array α) (h2:2<=d.size) (h20:d.size<20)
  (f:Nat) (hf:P.funcs.findIdx? (·.name== "internal/reflectlite" ++ ".Swapper$" ++toString (swapperK d.size ie ke))=some f)
  (gS:Bool) (hx:∀args W,(callFunc f args).run P W=((Extern.ReflectliteSwapper.swap gS args).run P W).andThen fun v w'=> .ok (.value v) w')
  (w:World) (hless:sw P g lb enc lt p blk off d.size w) (hp:∀i,i<d.size->p d[i]!) (hH:Holds enc w blk off d) (hblk:blk<w.heap.size):
  Calls P (ρ.f 8) #[.iface t (.slice (some ⟨blk,off,none⟩) d.size c),.func (.func g) #[] lb] w fun e w'=>
   e= .returned (.tuple #[])/\kq enc w blk off (Sort.insertionSort lt d 0 d.size) w':=by
 refine Any.sort_SliceStable_of_stable L t e i ie hi hd hpk hie ke hke _ d.size c (by omega) f hf (.func g) #[] lb w _ ?_
 have hB:sliceBound P e ie ke (some ⟨blk,off,none⟩) d.size c= #[.slice (some ⟨blk,off,none⟩) d.size c,typeHandle P e]:=by
  unfold sliceBound;rw [if_neg (swapperK_gt _ _ _ h2)]
 rw [hB]
 unfold stableWorld
 have ha:blk<(w.alloc (.cells #[.slice (some ⟨blk,off,none⟩) d.size c] t)).heap.size:=by rw [World.size_alloc];omega
 have hb:Holds enc (w.alloc (.cells #[.slice (some ⟨blk,off,none⟩) d.size c] t)) blk off d:=by rw [alloc_eq_grow];exact holds_grow enc w _ blk off d hblk hH
 refine(tj (P:=P) (ρ:=ρ) {L with} enc lt p g lb f _ blk off d _ eg ((hless.alloc hblk).alloc ha)
  (swapSwaps_of_literal gS f hx e ie hie hs1 hagg enc h1 blk off d.size c) hp (by rw [alloc_eq_grow _ (.cells #[.pointer _,.pointer _,.int .u64 151] _)];exact holds_grow enc _ _ blk off d ha hb) (by rw [World.size_alloc];omega) h20).mono ?_
 rintro e w' ⟨rfl,hR⟩
 exact⟨rfl,(hR.base ha).base hblk⟩
end Go.Proofs.YtckchgoblpgpbaaGreat
