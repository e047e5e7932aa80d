/- Axes, gaps, spaces, sides: the small functions of the layout. -/
import Derived.Test.YtdnnffbbhijmkaaGreatKaw
set_option linter.unusedVariables false
set_option linter.unusedSimpArgs false
set_option maxHeartbeats 8000000
namespace Go.Proofs.YtdnnffbbhijmkaaGreat
open Go.ChangeShapes Go.WideShapes Go.ChangeAt Go.RowKit Am Go.Proofs.Tryz
set_option maxRecDepth 100000
def oq(s:bd)(sd:Int)(rtl:Bool)(base:Int):Int:=if kn (pr s sd rtl) base=false then 0 else sg (DD (pr s sd rtl) base)
def o4(s:ay)(less:Int):ay:=if s.mode=1 then s else⟨s.mode,cl (wrap64 (cl s.n-cl less))⟩
def qY(s:ar)(w:Bool)(o:Int):Int:=if s.ratio≤0∨o<0 then-1 else if w then cl (fdv (wrap64 (cl o*cl s.ratio)) 64)else cl (fdv (wrap64 (cl o*64)) (cl s.ratio))
theorem kh(s:bd)(sd:Int)(rtl:Bool)(base:Int):PC0 197 [.agg (lc (bd.c s)),ai sd,abl rtl,ai base] (.t (ai (oq s sd rtl base))):=by
 obtain⟨⟨a0,a1⟩,⟨a2,a3⟩,⟨a4,a5⟩,⟨a6,a7⟩,⟨a8,a9⟩,⟨a10,a11⟩⟩:=s
 have zc1:=mE (⟨⟨a0,a1⟩,⟨a2,a3⟩,⟨a4,a5⟩,⟨a6,a7⟩,⟨a8,a9⟩,⟨a10,a11⟩⟩:bd)
 refine ae (aN f197) aD func197 fun g F hg hF=> ?_
 cbv
 repeat'(first|((first|refine rH hg (zc1 _ _) rfl (fun R0 R1 hR0 hR1=> ?_)|refine l5 hg (zc1 _ _) rfl (fun R0 R1 hR0 hR1=> ?_));cbv)|(refine bu hg (fc _ _ _) rfl (fun R0 hR0=> ?_);cases R0<;>cbv)|(refine aZ hg (fc _ _ _) rfl (fun R0 hR0=> ?_);cases R0<;>cbv)|((first|refine br hg (fu _ _ _) rfl (fun R0 hR0=> ?_)|refine aY hg (fu _ _ _) rfl (fun R0 hR0=> ?_)|refine br hg (bP _) rfl (fun R0 hR0=> ?_)|refine aY hg (bP _) rfl (fun R0 hR0=> ?_));cbv)|(split<;>rename_i hh<;>(try rw [hh])<;>(try simp only [dm hg]at hh)<;>cbv))
 all_goals exact aV hF (by simp only [oq];subst_vars;simp_all)
theorem kO(s:bd)(sd:Int)(rtl:Bool)(base:Int):PC0 217 [.agg (lc (bd.c s)),ai sd,abl rtl,ai base] (.t (ai (oq s sd rtl base))):=by
 obtain⟨⟨a0,a1⟩,⟨a2,a3⟩,⟨a4,a5⟩,⟨a6,a7⟩,⟨a8,a9⟩,⟨a10,a11⟩⟩:=s
 have zc1:=nj (⟨⟨a0,a1⟩,⟨a2,a3⟩,⟨a4,a5⟩,⟨a6,a7⟩,⟨a8,a9⟩,⟨a10,a11⟩⟩:bd)
 refine ae (aN f217) aD func217 fun g F hg hF=> ?_
 cbv
 repeat'(first|((first|refine rH hg (zc1 _ _) rfl (fun R0 R1 hR0 hR1=> ?_)|refine l5 hg (zc1 _ _) rfl (fun R0 R1 hR0 hR1=> ?_));cbv)|(refine bu hg (fi _ _ _) rfl (fun R0 hR0=> ?_);cases R0<;>cbv)|(refine aZ hg (fi _ _ _) rfl (fun R0 hR0=> ?_);cases R0<;>cbv)|((first|refine br hg (fB _ _ _) rfl (fun R0 hR0=> ?_)|refine aY hg (fB _ _ _) rfl (fun R0 hR0=> ?_)|refine br hg (bX _) rfl (fun R0 hR0=> ?_)|refine aY hg (bX _) rfl (fun R0 hR0=> ?_));cbv)|(split<;>rename_i hh<;>(try rw [hh])<;>(try simp only [dm hg]at hh)<;>cbv))
 all_goals exact aV hF (by simp only [oq];subst_vars;simp_all)
theorem eI(m n less:Int):PC0 116 [.agg [.J m,.J n],ai less] (.t (agP (o4 ⟨m,n⟩ less))):=by
 refine ae (aN f116) aD func116 fun g F hg hF=> ?_
 cbv
 repeat'(first|((first|refine br hg (aO _) rfl (fun R0 hR0=> ?_)|refine aY hg (aO _) rfl (fun R0 hR0=> ?_));cbv)|(split<;>rename_i hh<;>(try rw [hh])<;>(try simp only [dm hg]at hh)<;>cbv))
 all_goals exact ml hF (by simp only [o4,(dc hg)]at *;subst_vars;simp_all)
theorem gg(m n less:Int):PC0 133 [.agg [.J m,.J n],ai less] (.t (agP (o4 ⟨m,n⟩ less))):=by
 refine ae (aN f133) aD func133 fun g F hg hF=> ?_
 cbv
 repeat'(first|((first|refine br hg (bf _) rfl (fun R0 hR0=> ?_)|refine aY hg (bf _) rfl (fun R0 hR0=> ?_));cbv)|(split<;>rename_i hh<;>(try rw [hh])<;>(try simp only [dm hg]at hh)<;>cbv))
 all_goals exact ml hF (by simp only [o4,(dc hg)]at *;subst_vars;simp_all)
theorem lR(s:ar)(w:Bool)(o:Int):PC0 141 [.agg (lc (ar.c s)),abl w,ai o] (.t (ai (qY s w o))):=by
 cases w<;>(refine ae (aN f141) aD func141 fun g F hg hF=> ?_;cbv;repeat'(first|((first|refine br hg (aO _) rfl (fun R0 hR0=> ?_)|refine aY hg (aO _) rfl (fun R0 hR0=> ?_)|refine br hg (bH _ _) rfl (fun R0 hR0=> ?_)|refine aY hg (bH _ _) rfl (fun R0 hR0=> ?_));cbv)|(split<;>rename_i hh<;>(try rw [hh])<;>(try simp only [dm hg]at hh)<;>cbv)))
 all_goals exact aV hF (by simp only [qY,(fN hg)]at *;subst_vars;(try simp_all);(try(intro hx;omega)))
theorem iP(s:ar)(w:Bool)(o:Int):PC0 144 [.agg (lc (ar.c s)),abl w,ai o] (.t (ai (qY s w o))):=by
 cases w<;>(refine ae (aN f144) aD func144 fun g F hg hF=> ?_;cbv;repeat'(first|((first|refine br hg (bf _) rfl (fun R0 hR0=> ?_)|refine aY hg (bf _) rfl (fun R0 hR0=> ?_)|refine br hg (bI _ _) rfl (fun R0 hR0=> ?_)|refine aY hg (bI _ _) rfl (fun R0 hR0=> ?_));cbv)|(split<;>rename_i hh<;>(try rw [hh])<;>(try simp only [dm hg]at hh)<;>cbv)))
 all_goals exact aV hF (by simp only [qY,(fN hg)]at *;subst_vars;(try simp_all);(try(intro hx;omega)))
def jm(s:ar):Bool:=decide (s.dir=1)||decide (s.dir=3)
def kx(s:ar)(rtl:Bool):Bool:=if s.dir=1 then rtl else if s.dir=3 then !rtl else decide (s.dir=4)
def k6(s:ar)(rtl:Bool):Bool:=xor (decide (s.wrap=3)) (rtl&& !jm s)
def sd1(row gI:Bool):Int:=if row then(if gI then 2 else 0)else(if gI then 3 else 1)
def sd2(row gI:Bool):Int:=if row then(if gI then 0 else 2)else(if gI then 1 else 3)
def yK(s k:ar):Int:=if(if k.self=0 then s.items else k.self)=5∧jm s=false then 2 else(if k.self=0 then s.items else k.self)
def CD(inner at_ size:Int)(gI:Bool):Int:=if gI then wrap64 (wrap64 (inner-at_)-size)else at_
def iR(s:ar)(wide:Bool):Int:=if wide then cl s.colGap else cl s.rowGap
def uz(m:bd)(sd:Int)(rtl:Bool):Bool:=decide ((pr m sd rtl).kind=3)
def tak(s:ay)(n:Int):Int:=if s.mode=3∨(s.mode=2∧s.n<n)then cl s.n else cl n
def jU(s:ay):Int:=if s.mode=2∨s.mode=3 then s.n else-1
def Bm(s:ay):ay:=if s.mode=3 then⟨2,s.n⟩else s
def knS(s:ay):Int:=if s.mode=3 then s.n else-1
def AN(s:ay):Bool:=if s.mode=1 then decide (s.n=0)else(decide (s.mode=2)||decide (s.mode=3))&&rng s.n 0 1048576
def uy(c:Int):Int:=if c=3 then 2 else if c=4 then 3 else if c=5 then 4 else if c=6 then 5 else 1
def sK(x:aw):Bool:=rng x.size 0 1048576&&(rng x.base 0 1048576&&(rng x.before (-1048576) 1048576&&(rng x.behind (-1048576) 1048576&&rng x.align 1 5)))
def onB(x:aw):Bool:=decide (x.align=5)&&(!x.autoBefore&& !x.autoBehind)
def xF(x:aw):Bool:=decide (x.align=1)&&(!x.autoBefore&& !x.autoBehind)
def Dy(x:aw)(cross base:Int):Int:=
 if sK x=false then 0 else
 let free:=wrap64 (wrap64 (wrap64 (cross-x.size)-x.before)-x.behind)
 if x.autoBefore||x.autoBehind then(if free≤0∨x.autoBefore=false then x.before else if x.autoBehind then wrap64 (x.before+fdv free 2)else wrap64 (x.before+free))
 else if x.align=3 then wrap64 (x.before+free)else if x.align=4 then wrap64 (x.before+fdv free 2)else if x.align=5 then wrap64 (base-x.base)else x.before
theorem gq(s:ar):PC0 117 [.agg (lc (ar.c s))] (.t (abl (jm s))):=by
 refine ae (aN f117) aD func117 fun g F hg hF=> ?_
 cbv
 repeat'(first|(split<;>rename_i hh<;>(try rw [hh])<;>(try simp only [dm hg]at hh)<;>cbv))
 all_goals exact bm hF (by(try simp only [bq hg,fk hg,zqn]);clear hF hg;simp_all [jm])
theorem gy(s:ar):PC0 134 [.agg (lc (ar.c s))] (.t (abl (jm s))):=by
 refine ae (aN f134) aD func134 fun g F hg hF=> ?_
 cbv
 repeat'(first|(split<;>rename_i hh<;>(try rw [hh])<;>(try simp only [dm hg]at hh)<;>cbv))
 all_goals exact bm hF (by(try simp only [bq hg,fk hg,zqn]);clear hF hg;simp_all [jm])
theorem ki(s:ar)(rtl:Bool):PC0 279 [.agg (lc (ar.c s)),abl rtl] (.t (abl (kx s rtl))):=by
 cases rtl<;>(refine ae (aN f279) aD func279 fun g F hg hF=> ?_;cbv;repeat'(first|(split<;>rename_i hh<;>(try rw [hh])<;>(try simp only [dm hg]at hh)<;>cbv)))
 all_goals exact bm hF (by(try simp only [bq hg,fk hg,zqn]);clear hF hg;simp_all [kx])
theorem kP(s:ar)(rtl:Bool):PC0 229 [.agg (lc (ar.c s)),abl rtl] (.t (abl (kx s rtl))):=by
 cases rtl<;>(refine ae (aN f229) aD func229 fun g F hg hF=> ?_;cbv;repeat'(first|(split<;>rename_i hh<;>(try rw [hh])<;>(try simp only [dm hg]at hh)<;>cbv)))
 all_goals exact bm hF (by(try simp only [bq hg,fk hg,zqn]);clear hF hg;simp_all [kx])
theorem jI(s:ar)(rtl:Bool):PC0 278 [.agg (lc (ar.c s)),abl rtl] (.t (abl (k6 s rtl))):=by
 have c1:=gq s
 cases rtl<;>(refine ae (aN f278) aD func278 fun g F hg hF=> ?_;cbv;repeat'(first|(refine bu hg c1 rfl (fun R0 hR0=> ?_);cases R0<;>cbv)|(refine aZ hg c1 rfl (fun R0 hR0=> ?_);cases R0<;>cbv)|(split<;>rename_i hh<;>(try rw [hh])<;>(try simp only [dm hg]at hh)<;>cbv)))
 all_goals exact bm hF (by(try simp only [bq hg,fk hg,zqn]);clear hF hg;simp_all [k6])
theorem jQ(s:ar)(rtl:Bool):PC0 216 [.agg (lc (ar.c s)),abl rtl] (.t (abl (k6 s rtl))):=by
 have c1:=gy s
 cases rtl<;>(refine ae (aN f216) aD func216 fun g F hg hF=> ?_;cbv;repeat'(first|(refine bu hg c1 rfl (fun R0 hR0=> ?_);cases R0<;>cbv)|(refine aZ hg c1 rfl (fun R0 hR0=> ?_);cases R0<;>cbv)|(split<;>rename_i hh<;>(try rw [hh])<;>(try simp only [dm hg]at hh)<;>cbv)))
 all_goals exact bm hF (by(try simp only [bq hg,fk hg,zqn]);clear hF hg;simp_all [k6])
theorem kf(row gI:Bool):PC0 277 [abl row,abl gI] (.tup [ai (sd1 row gI),ai (sd2 row gI)]):=by
 cases row<;>cases gI<;>(refine ae (aN f277) aD func277 fun g F hg hF=> ?_;cbv)
 all_goals exact uc hF (by exact⟨rfl,rfl⟩)
theorem lY(row gI:Bool):PC0 215 [abl row,abl gI] (.tup [ai (sd1 row gI),ai (sd2 row gI)]):=by
 cases row<;>cases gI<;>(refine ae (aN f215) aD func215 fun g F hg hF=> ?_;cbv)
 all_goals exact uc hF (by exact⟨rfl,rfl⟩)
theorem oE(s:ar)(rtl:Bool):PC0 196 [.agg (lc (ar.c s)),abl rtl] (.tup [ai (sd1 (jm s) (kx s rtl)),ai (sd2 (jm s) (kx s rtl))]):=by
 have c1:=gq s
 have c2:=ki s rtl
 have c3:=kf
 refine ae (aN f196) aD func196 fun g F hg hF=> ?_
 cbv
 repeat'(first|(refine bu hg c1 rfl (fun R0 hR0=> ?_);cases R0<;>cbv)|(refine aZ hg c1 rfl (fun R0 hR0=> ?_);cases R0<;>cbv)|(refine bu hg c2 rfl (fun R0 hR0=> ?_);cases R0<;>cbv)|(refine aZ hg c2 rfl (fun R0 hR0=> ?_);cases R0<;>cbv)|((first|refine B8 hg (c3 _ _) rfl (fun R0 R1 hR0 hR1=> ?_)|refine xL hg (c3 _ _) rfl (fun R0 R1 hR0 hR1=> ?_));cbv)|(split<;>rename_i hh<;>(try rw [hh])<;>(try simp only [dm hg]at hh)<;>cbv))
 all_goals exact uc hF (by subst_vars;simp_all)
theorem jN(s:ar)(rtl:Bool):PC0 145 [.agg (lc (ar.c s)),abl rtl] (.tup [ai (sd1 (jm s) (kx s rtl)),ai (sd2 (jm s) (kx s rtl))]):=by
 have c1:=gy s
 have c2:=kP s rtl
 have c3:=lY
 refine ae (aN f145) aD func145 fun g F hg hF=> ?_
 cbv
 repeat'(first|(refine bu hg c1 rfl (fun R0 hR0=> ?_);cases R0<;>cbv)|(refine aZ hg c1 rfl (fun R0 hR0=> ?_);cases R0<;>cbv)|(refine bu hg c2 rfl (fun R0 hR0=> ?_);cases R0<;>cbv)|(refine aZ hg c2 rfl (fun R0 hR0=> ?_);cases R0<;>cbv)|((first|refine B8 hg (c3 _ _) rfl (fun R0 R1 hR0 hR1=> ?_)|refine xL hg (c3 _ _) rfl (fun R0 R1 hR0 hR1=> ?_));cbv)|(split<;>rename_i hh<;>(try rw [hh])<;>(try simp only [dm hg]at hh)<;>cbv))
 all_goals exact uc hF (by subst_vars;simp_all)
theorem nM(s:ar)(rtl:Bool):PC0 195 [.agg (lc (ar.c s)),abl rtl] (.tup [ai (sd1 (!jm s) (k6 s rtl)),ai (sd2 (!jm s) (k6 s rtl))]):=by
 have c1:=gq s
 have c2:=jI s rtl
 have c3:=kf
 refine ae (aN f195) aD func195 fun g F hg hF=> ?_
 cbv
 repeat'(first|(refine bu hg c1 rfl (fun R0 hR0=> ?_);cases R0<;>cbv)|(refine aZ hg c1 rfl (fun R0 hR0=> ?_);cases R0<;>cbv)|(refine bu hg c2 rfl (fun R0 hR0=> ?_);cases R0<;>cbv)|(refine aZ hg c2 rfl (fun R0 hR0=> ?_);cases R0<;>cbv)|((first|refine B8 hg (c3 _ _) rfl (fun R0 R1 hR0 hR1=> ?_)|refine xL hg (c3 _ _) rfl (fun R0 R1 hR0 hR1=> ?_));cbv)|(split<;>rename_i hh<;>(try rw [hh])<;>(try simp only [dm hg]at hh)<;>cbv))
 all_goals exact uc hF (by subst_vars;simp_all)
theorem jb(s:ar)(rtl:Bool):PC0 128 [.agg (lc (ar.c s)),abl rtl] (.tup [ai (sd1 (!jm s) (k6 s rtl)),ai (sd2 (!jm s) (k6 s rtl))]):=by
 have c1:=gy s
 have c2:=jQ s rtl
 have c3:=lY
 refine ae (aN f128) aD func128 fun g F hg hF=> ?_
 cbv
 repeat'(first|(refine bu hg c1 rfl (fun R0 hR0=> ?_);cases R0<;>cbv)|(refine aZ hg c1 rfl (fun R0 hR0=> ?_);cases R0<;>cbv)|(refine bu hg c2 rfl (fun R0 hR0=> ?_);cases R0<;>cbv)|(refine aZ hg c2 rfl (fun R0 hR0=> ?_);cases R0<;>cbv)|((first|refine B8 hg (c3 _ _) rfl (fun R0 R1 hR0 hR1=> ?_)|refine xL hg (c3 _ _) rfl (fun R0 R1 hR0 hR1=> ?_));cbv)|(split<;>rename_i hh<;>(try rw [hh])<;>(try simp only [dm hg]at hh)<;>cbv))
 all_goals exact uc hF (by subst_vars;simp_all)
theorem lU(s k:ar):PC0 112 [.agg (lc (ar.c s)),.agg (lc (ar.c k))] (.t (ai (yK s k))):=by
 have c1:=gq s
 refine ae (aN f112) aD func112 fun g F hg hF=> ?_
 cbv
 repeat'(first|(refine bu hg c1 rfl (fun R0 hR0=> ?_);cases R0<;>cbv)|(refine aZ hg c1 rfl (fun R0 hR0=> ?_);cases R0<;>cbv)|(split<;>rename_i hh<;>(try rw [hh])<;>(try simp only [dm hg]at hh)<;>cbv))
 all_goals exact aV hF (by simp only [yK];grind)
theorem l4(s k:ar):PC0 131 [.agg (lc (ar.c s)),.agg (lc (ar.c k))] (.t (ai (yK s k))):=by
 have c1:=gy s
 refine ae (aN f131) aD func131 fun g F hg hF=> ?_
 cbv
 repeat'(first|(refine bu hg c1 rfl (fun R0 hR0=> ?_);cases R0<;>cbv)|(refine aZ hg c1 rfl (fun R0 hR0=> ?_);cases R0<;>cbv)|(split<;>rename_i hh<;>(try rw [hh])<;>(try simp only [dm hg]at hh)<;>cbv))
 all_goals exact aV hF (by simp only [yK];grind)
theorem kg(i a s:Int)(b:Bool):PC0 320 [ai i,ai a,ai s,abl b] (.t (ai (CD i a s b))):=by
 cases b<;>(refine ae (aN f320) aD func320 fun g F hg hF=> ?_;cbv)
 all_goals exact aV hF (by(try simp only [dc hg]);rfl)
theorem kN(i a s:Int)(b:Bool):PC0 270 [ai i,ai a,ai s,abl b] (.t (ai (CD i a s b))):=by
 cases b<;>(refine ae (aN f270) aD func270 fun g F hg hF=> ?_;cbv)
 all_goals exact aV hF (by(try simp only [dc hg]);rfl)
theorem gu(s:ar)(w:Bool):PC0 169 [.agg (lc (ar.c s)),abl w] (.t (ai (iR s w))):=by
 cases w<;>(refine ae (aN f169) aD func169 fun g F hg hF=> ?_;cbv;repeat'(first|((first|refine br hg (aO _) rfl (fun R0 hR0=> ?_)|refine aY hg (aO _) rfl (fun R0 hR0=> ?_));cbv)|(split<;>rename_i hh<;>(try rw [hh])<;>(try simp only [dm hg]at hh)<;>cbv)))
 all_goals exact aV hF (by subst_vars;rfl)
theorem ir(s:ar)(w:Bool):PC0 174 [.agg (lc (ar.c s)),abl w] (.t (ai (iR s w))):=by
 cases w<;>(refine ae (aN f174) aD func174 fun g F hg hF=> ?_;cbv;repeat'(first|((first|refine br hg (bf _) rfl (fun R0 hR0=> ?_)|refine aY hg (bf _) rfl (fun R0 hR0=> ?_));cbv)|(split<;>rename_i hh<;>(try rw [hh])<;>(try simp only [dm hg]at hh)<;>cbv)))
 all_goals exact aV hF (by subst_vars;rfl)
theorem km(s:bd)(sd:Int)(rtl:Bool):PC0 198 [.agg (lc (bd.c s)),ai sd,abl rtl] (.t (abl (uz s sd rtl))):=by
 have c1:=mE s sd rtl
 refine ae (aN f198) aD func198 fun g F hg hF=> ?_
 cbv
 repeat'(first|((first|refine rH hg c1 rfl (fun R0 R1 hR0 hR1=> ?_)|refine l5 hg c1 rfl (fun R0 R1 hR0 hR1=> ?_));cbv)|(split<;>rename_i hh<;>(try rw [hh])<;>(try simp only [dm hg]at hh)<;>cbv))
 all_goals exact bm hF (by(try simp only [bq hg]);subst_vars;simp [uz];try exact(zqn _ _))
theorem dz(s:bd)(sd:Int)(rtl:Bool):PC0 130 [.agg (lc (bd.c s)),ai sd,abl rtl] (.t (abl (uz s sd rtl))):=by
 have c1:=nj s sd rtl
 refine ae (aN f130) aD func130 fun g F hg hF=> ?_
 cbv
 repeat'(first|((first|refine rH hg c1 rfl (fun R0 R1 hR0 hR1=> ?_)|refine l5 hg c1 rfl (fun R0 R1 hR0 hR1=> ?_));cbv)|(split<;>rename_i hh<;>(try rw [hh])<;>(try simp only [dm hg]at hh)<;>cbv))
 all_goals exact bm hF (by(try simp only [bq hg]);subst_vars;simp [uz];try exact(zqn _ _))
theorem dF(m n k:Int):PC0 249 [.agg [.J m,.J n],ai k] (.t (ai (tak ⟨m,n⟩ k))):=by
 refine ae (aN f249) aD func249 fun g F hg hF=> ?_
 cbv
 repeat'(first|((first|refine br hg (aO _) rfl (fun R0 hR0=> ?_)|refine aY hg (aO _) rfl (fun R0 hR0=> ?_));cbv)|(split<;>rename_i hh<;>(try rw [hh])<;>(try simp only [dm hg]at hh)<;>cbv))
 all_goals exact aV hF (by simp only [tak];subst_vars;grind)
theorem fh(m n k:Int):PC0 176 [.agg [.J m,.J n],ai k] (.t (ai (tak ⟨m,n⟩ k))):=by
 refine ae (aN f176) aD func176 fun g F hg hF=> ?_
 cbv
 repeat'(first|((first|refine br hg (bf _) rfl (fun R0 hR0=> ?_)|refine aY hg (bf _) rfl (fun R0 hR0=> ?_));cbv)|(split<;>rename_i hh<;>(try rw [hh])<;>(try simp only [dm hg]at hh)<;>cbv))
 all_goals exact aV hF (by simp only [tak];subst_vars;grind)
theorem gN(m n:Int):PC0 170 [.agg [.J m,.J n]] (.t (ai (jU ⟨m,n⟩))):=by
 refine ae (aN f170) aD func170 fun g F hg hF=> ?_
 cbv
 repeat'(first|(split<;>rename_i hh<;>(try rw [hh])<;>(try simp only [dm hg]at hh)<;>cbv))
 all_goals exact aV hF (by simp only [jU];grind)
theorem nm(m n:Int):PC0 175 [.agg [.J m,.J n]] (.t (ai (jU ⟨m,n⟩))):=by
 refine ae (aN f175) aD func175 fun g F hg hF=> ?_
 cbv
 repeat'(first|(split<;>rename_i hh<;>(try rw [hh])<;>(try simp only [dm hg]at hh)<;>cbv))
 all_goals exact aV hF (by simp only [jU];grind)
theorem kj(m n:Int):PC0 115 [.agg [.J m,.J n]] (.t (agP (Bm ⟨m,n⟩))):=by
 refine ae (aN f115) aD func115 fun g F hg hF=> ?_
 cbv
 repeat'(first|(split<;>rename_i hh<;>(try rw [hh])<;>(try simp only [dm hg]at hh)<;>cbv))
 all_goals exact ml hF (by simp only [Bm];grind)
theorem kQ(m n:Int):PC0 132 [.agg [.J m,.J n]] (.t (agP (Bm ⟨m,n⟩))):=by
 refine ae (aN f132) aD func132 fun g F hg hF=> ?_
 cbv
 repeat'(first|(split<;>rename_i hh<;>(try rw [hh])<;>(try simp only [dm hg]at hh)<;>cbv))
 all_goals exact ml hF (by simp only [Bm];grind)
theorem de(m n:Int):PC0 108 [.agg [.J m,.J n]] (.t (ai (knS ⟨m,n⟩))):=by
 refine ae (aN f108) aD func108 fun g F hg hF=> ?_
 cbv
 repeat'(first|(split<;>rename_i hh<;>(try rw [hh])<;>(try simp only [dm hg]at hh)<;>cbv))
 all_goals exact aV hF (by simp only [knS];grind)
theorem ec(m n:Int):PC0 124 [.agg [.J m,.J n]] (.t (ai (knS ⟨m,n⟩))):=by
 refine ae (aN f124) aD func124 fun g F hg hF=> ?_
 cbv
 repeat'(first|(split<;>rename_i hh<;>(try rw [hh])<;>(try simp only [dm hg]at hh)<;>cbv))
 all_goals exact aV hF (by simp only [knS];grind)
theorem lQ(m n:Int):PC0 106 [.agg [.J m,.J n]] (.t (abl (AN ⟨m,n⟩))):=by
 refine ae (aN f106) aD func106 fun g F hg hF=> ?_
 cbv
 repeat'(first|(refine bu hg (bk _ _ _) rfl (fun R0 hR0=> ?_);cases R0<;>cbv)|(refine aZ hg (bk _ _ _) rfl (fun R0 hR0=> ?_);cases R0<;>cbv)|(split<;>rename_i hh<;>(try rw [hh])<;>(try simp only [dm hg]at hh)<;>cbv))
 all_goals exact bm hF (by(try simp only [bq hg,zqn]at *);clear hF hg;simp_all [AN,rng];try grind)
theorem lZ(m n:Int):PC0 120 [.agg [.J m,.J n]] (.t (abl (AN ⟨m,n⟩))):=by
 refine ae (aN f120) aD func120 fun g F hg hF=> ?_
 cbv
 repeat'(first|(refine bu hg (bQ _ _ _) rfl (fun R0 hR0=> ?_);cases R0<;>cbv)|(refine aZ hg (bQ _ _ _) rfl (fun R0 hR0=> ?_);cases R0<;>cbv)|(split<;>rename_i hh<;>(try rw [hh])<;>(try simp only [dm hg]at hh)<;>cbv))
 all_goals exact bm hF (by(try simp only [bq hg,zqn]at *);clear hF hg;simp_all [AN,rng];try grind)
theorem nI(c:Int):PC0 353 [ai c] (.t (ai (uy c))):=by
 refine ae (aN f353) aD func353 fun g F hg hF=> ?_
 cbv
 repeat'(first|(split<;>rename_i hh<;>(try rw [hh])<;>(try simp only [dm hg]at hh)<;>cbv))
 all_goals exact aV hF (by simp only [uy];grind)
theorem oQ(c:Int):PC0 328 [ai c] (.t (ai (uy c))):=by
 refine ae (aN f328) aD func328 fun g F hg hF=> ?_
 cbv
 repeat'(first|(split<;>rename_i hh<;>(try rw [hh])<;>(try simp only [dm hg]at hh)<;>cbv))
 all_goals exact aV hF (by simp only [uy];grind)
theorem mD(x:aw):PC0 357 [.agg (lc (aw.c x))] (.t (abl (sK x))):=by
 refine ae (aN f357) aD func357 fun g F hg hF=> ?_
 cbv
 repeat'(first|(refine bu hg (bk _ _ _) rfl (fun R0 hR0=> ?_);cases R0<;>cbv)|(refine aZ hg (bk _ _ _) rfl (fun R0 hR0=> ?_);cases R0<;>cbv)|(split<;>rename_i hh<;>(try rw [hh])<;>(try simp only [dm hg]at hh)<;>cbv))
 all_goals exact bm hF (by(try simp only [bq hg,fk hg,zqn]);clear hF hg;simp_all [sK])
theorem ni(x:aw):PC0 333 [.agg (lc (aw.c x))] (.t (abl (sK x))):=by
 refine ae (aN f333) aD func333 fun g F hg hF=> ?_
 cbv
 repeat'(first|(refine bu hg (bQ _ _ _) rfl (fun R0 hR0=> ?_);cases R0<;>cbv)|(refine aZ hg (bQ _ _ _) rfl (fun R0 hR0=> ?_);cases R0<;>cbv)|(split<;>rename_i hh<;>(try rw [hh])<;>(try simp only [dm hg]at hh)<;>cbv))
 all_goals exact bm hF (by(try simp only [bq hg,fk hg,zqn]);clear hF hg;simp_all [sK])
theorem ix(x:aw):PC0 202 [.agg (lc (aw.c x))] (.t (abl (x.autoBefore||x.autoBehind))):=by
 obtain⟨s,b,c,p,q,a,e⟩:=x
 cases p<;>cases q<;>(refine ae (aN f202) aD func202 fun g F hg hF=> ?_;cbv)
 all_goals exact bm hF rfl
theorem nr(x:aw):PC0 332 [.agg (lc (aw.c x))] (.t (abl (onB x))):=by
 obtain⟨s,b,c,p,q,a,e⟩:=x
 cases p<;>cases q<;>(refine ae (aN f332) aD func332 fun g F hg hF=> ?_;cbv;repeat'(first|(split<;>rename_i hh<;>(try rw [hh])<;>(try simp only [dm hg]at hh)<;>cbv)))
 all_goals exact bm hF (by(try simp only [bq hg,fk hg,zqn]);clear hF hg;simp_all [onB,xF])
theorem vo(x:aw):PC0 266 [.agg (lc (aw.c x))] (.t (abl (xF x))):=by
 obtain⟨s,b,c,p,q,a,e⟩:=x
 cases p<;>cases q<;>(refine ae (aN f266) aD func266 fun g F hg hF=> ?_;cbv;repeat'(first|(split<;>rename_i hh<;>(try rw [hh])<;>(try simp only [dm hg]at hh)<;>cbv)))
 all_goals exact bm hF (by(try simp only [bq hg,fk hg,zqn]);clear hF hg;simp_all [onB,xF])
theorem mJ(x:aw):PC0 356 [.agg (lc (aw.c x))] (.t (abl (onB x))):=by
 have c1:=ix x
 obtain⟨s,b,c,p,q,a,e⟩:=x
 cases p<;>cases q<;>(refine ae (aN f356) aD func356 fun g F hg hF=> ?_;cbv;repeat'(first|(refine bu hg c1 rfl (fun R0 hR0=> ?_);cases R0<;>cbv)|(refine aZ hg c1 rfl (fun R0 hR0=> ?_);cases R0<;>cbv)|(split<;>rename_i hh<;>(try rw [hh])<;>(try simp only [dm hg]at hh)<;>cbv)))
 all_goals exact bm hF (by(try simp only [bq hg,fk hg,zqn]);clear hF hg c1;simp_all [onB,xF])
theorem og(x:aw):PC0 113 [.agg (lc (aw.c x))] (.t (abl (xF x))):=by
 have c1:=ix x
 obtain⟨s,b,c,p,q,a,e⟩:=x
 cases p<;>cases q<;>(refine ae (aN f113) aD func113 fun g F hg hF=> ?_;cbv;repeat'(first|(refine bu hg c1 rfl (fun R0 hR0=> ?_);cases R0<;>cbv)|(refine aZ hg c1 rfl (fun R0 hR0=> ?_);cases R0<;>cbv)|(split<;>rename_i hh<;>(try rw [hh])<;>(try simp only [dm hg]at hh)<;>cbv)))
 all_goals exact bm hF (by(try simp only [bq hg,fk hg,zqn]);clear hF hg c1;simp_all [onB,xF])
theorem lN(a b:Int):PC0 184 [ai a,ai b] (.t (ai (if b<a then b else a))):=by
 refine ae (aN f184) aD func184 fun g F hg hF=> ?_
 cbv
 repeat'(first|(split<;>rename_i hh<;>(try rw [hh])<;>(try simp only [dm hg]at hh)<;>cbv))
 all_goals exact aV hF (by grind)
theorem iv(x:aw):PC0 114 [.agg (lc (aw.c x))] (.t (ai (wrap64 (x.before+x.behind)))):=by
 refine ae (aN f114) aD func114 fun g F hg hF=> ?_
 cbv
 all_goals exact aV hF (by rw [aK hg])
theorem mI(x:aw)(cross base:Int):PC0 321 [.agg (lc (aw.c x)),ai cross,ai base] (.t (ai (Dy x cross base))):=by
 have c1:=ix x
 have c2:=mD x
 obtain⟨s,b,c,p,q,a,e⟩:=x
 cases p<;>cases q<;>(refine ae (aN f321) aD func321 fun g F hg hF=> ?_;cbv;repeat'(first|(refine bu hg c1 rfl (fun R0 hR0=> ?_);cases R0<;>cbv)|(refine aZ hg c1 rfl (fun R0 hR0=> ?_);cases R0<;>cbv)|(refine bu hg c2 rfl (fun R0 hR0=> ?_);cases R0<;>cbv)|(refine aZ hg c2 rfl (fun R0 hR0=> ?_);cases R0<;>cbv)|((first|refine br hg (bH _ _) rfl (fun R0 hR0=> ?_)|refine aY hg (bH _ _) rfl (fun R0 hR0=> ?_));cbv)|(split<;>rename_i hh<;>(try rw [hh])<;>(try simp only [dm hg]at hh)<;>cbv)))
 all_goals exact aV hF (by(try simp only [dc hg,aK hg]at *);(try clear c1);clear c2 hF hg;simp only [Dy];grind)
theorem np(x:aw)(cross base:Int):PC0 272 [.agg (lc (aw.c x)),ai cross,ai base] (.t (ai (Dy x cross base))):=by
 have c2:=ni x
 obtain⟨s,b,c,p,q,a,e⟩:=x
 cases p<;>cases q<;>(refine ae (aN f272) aD func272 fun g F hg hF=> ?_;cbv;repeat'(first|(refine bu hg c2 rfl (fun R0 hR0=> ?_);cases R0<;>cbv)|(refine aZ hg c2 rfl (fun R0 hR0=> ?_);cases R0<;>cbv)|((first|refine br hg (bI _ _) rfl (fun R0 hR0=> ?_)|refine aY hg (bI _ _) rfl (fun R0 hR0=> ?_));cbv)|(split<;>rename_i hh<;>(try rw [hh])<;>(try simp only [dm hg]at hh)<;>cbv)))
 all_goals exact aV hF (by(try simp only [dc hg,aK hg]at *);(try clear c1);clear c2 hF hg;simp only [Dy];grind)
end Go.Proofs.YtdnnffbbhijmkaaGreat
