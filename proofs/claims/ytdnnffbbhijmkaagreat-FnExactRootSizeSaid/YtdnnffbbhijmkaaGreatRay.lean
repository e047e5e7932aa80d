/- Axes, gaps, spaces, sides: the small functions of the layout. -/
import Derived.Test.YtdnnffbbhijmkaaGreatRax
set_option linter.unusedVariables false
set_option linter.unusedSimpArgs false
set_option maxHeartbeats 8000000
namespace Go.Proofs.YtdnnffbbhijmkaaGreat
open Go.ChangeShapes Go.WideShapes Go.ChangeAt Go.RowKit Am Go.Proofs.Tryz
set_option maxRecDepth 100000
def og(s:bd)(sd:Int)(rtl:Bool)(base:Int):Int:=if kn (pk s sd rtl) base=false then 0 else sg (Dj (pk s sd rtl) base)
def oY(s:aF)(less:Int):aF:=if s.mode=1 then s else⟨s.mode,cl (wrap64 (cl s.n-cl less))⟩
def qX(s:aq)(w:Bool)(o:Int):Int:=if s.ratio≤0∨o<0 then-1 else if w then cl (fdv (wrap64 (cl o*cl s.ratio)) 64)else cl (fdv (wrap64 (cl o*64)) (cl s.ratio))
theorem km(s:bd)(sd:Int)(rtl:Bool)(base:Int):PC0 197 [.agg (lc (bd.c s)),ai sd,abl rtl,ai base] (.t (ai (og s sd rtl base))):=by
 obtain⟨⟨a0,a1⟩,⟨a2,a3⟩,⟨a4,a5⟩,⟨a6,a7⟩,⟨a8,a9⟩,⟨a10,a11⟩⟩:=s
 have zc1:=mw (⟨⟨a0,a1⟩,⟨a2,a3⟩,⟨a4,a5⟩,⟨a6,a7⟩,⟨a8,a9⟩,⟨a10,a11⟩⟩:bd)
 refine ae (aN f197) aB func197 fun g F hg hF=> ?_
 cbv
 repeat'(first|((first|refine nY hg (zc1 _ _) rfl (fun R0 R1 hR0 hR1=> ?_)|refine jb hg (zc1 _ _) rfl (fun R0 R1 hR0 hR1=> ?_));cbv)|(refine br hg (ff _ _ _) rfl (fun R0 hR0=> ?_);cases R0<;>cbv)|(refine aZ hg (ff _ _ _) rfl (fun R0 hR0=> ?_);cases R0<;>cbv)|((first|refine bm hg (fA _ _ _) rfl (fun R0 hR0=> ?_)|refine aU hg (fA _ _ _) rfl (fun R0 hR0=> ?_)|refine bm hg (bO _) rfl (fun R0 hR0=> ?_)|refine aU hg (bO _) rfl (fun R0 hR0=> ?_));cbv)|(split<;>rename_i hh<;>(try rw [hh])<;>(try simp only [dl hg]at hh)<;>cbv))
 all_goals exact aY hF (by simp only [og];subst_vars;simp_all)
theorem kN(s:bd)(sd:Int)(rtl:Bool)(base:Int):PC0 217 [.agg (lc (bd.c s)),ai sd,abl rtl,ai base] (.t (ai (og s sd rtl base))):=by
 obtain⟨⟨a0,a1⟩,⟨a2,a3⟩,⟨a4,a5⟩,⟨a6,a7⟩,⟨a8,a9⟩,⟨a10,a11⟩⟩:=s
 have zc1:=m8 (⟨⟨a0,a1⟩,⟨a2,a3⟩,⟨a4,a5⟩,⟨a6,a7⟩,⟨a8,a9⟩,⟨a10,a11⟩⟩:bd)
 refine ae (aN f217) aB func217 fun g F hg hF=> ?_
 cbv
 repeat'(first|((first|refine nY hg (zc1 _ _) rfl (fun R0 R1 hR0 hR1=> ?_)|refine jb hg (zc1 _ _) rfl (fun R0 R1 hR0 hR1=> ?_));cbv)|(refine br hg (fk _ _ _) rfl (fun R0 hR0=> ?_);cases R0<;>cbv)|(refine aZ hg (fk _ _ _) rfl (fun R0 hR0=> ?_);cases R0<;>cbv)|((first|refine bm hg (fF _ _ _) rfl (fun R0 hR0=> ?_)|refine aU hg (fF _ _ _) rfl (fun R0 hR0=> ?_)|refine bm hg (cj _) rfl (fun R0 hR0=> ?_)|refine aU hg (cj _) rfl (fun R0 hR0=> ?_));cbv)|(split<;>rename_i hh<;>(try rw [hh])<;>(try simp only [dl hg]at hh)<;>cbv))
 all_goals exact aY hF (by simp only [og];subst_vars;simp_all)
theorem eN(m n less:Int):PC0 116 [.agg [.J m,.J n],ai less] (.t (agP (oY ⟨m,n⟩ less))):=by
 refine ae (aN f116) aB func116 fun g F hg hF=> ?_
 cbv
 repeat'(first|((first|refine bm hg (aO _) rfl (fun R0 hR0=> ?_)|refine aU hg (aO _) rfl (fun R0 hR0=> ?_));cbv)|(split<;>rename_i hh<;>(try rw [hh])<;>(try simp only [dl hg]at hh)<;>cbv))
 all_goals exact kY hF (by simp only [oY,(de hg)]at *;subst_vars;simp_all)
theorem gj(m n less:Int):PC0 133 [.agg [.J m,.J n],ai less] (.t (agP (oY ⟨m,n⟩ less))):=by
 refine ae (aN f133) aB func133 fun g F hg hF=> ?_
 cbv
 repeat'(first|((first|refine bm hg (bf _) rfl (fun R0 hR0=> ?_)|refine aU hg (bf _) rfl (fun R0 hR0=> ?_));cbv)|(split<;>rename_i hh<;>(try rw [hh])<;>(try simp only [dl hg]at hh)<;>cbv))
 all_goals exact kY hF (by simp only [oY,(de hg)]at *;subst_vars;simp_all)
theorem lO(s:aq)(w:Bool)(o:Int):PC0 141 [.agg (lc (aq.c s)),abl w,ai o] (.t (ai (qX s w o))):=by
 cases w<;>(refine ae (aN f141) aB func141 fun g F hg hF=> ?_;cbv;repeat'(first|((first|refine bm hg (aO _) rfl (fun R0 hR0=> ?_)|refine aU hg (aO _) rfl (fun R0 hR0=> ?_)|refine bm hg (bH _ _) rfl (fun R0 hR0=> ?_)|refine aU hg (bH _ _) rfl (fun R0 hR0=> ?_));cbv)|(split<;>rename_i hh<;>(try rw [hh])<;>(try simp only [dl hg]at hh)<;>cbv)))
 all_goals exact aY hF (by simp only [qX,(fP hg)]at *;subst_vars;(try simp_all);(try(intro hx;omega)))
theorem iJ(s:aq)(w:Bool)(o:Int):PC0 144 [.agg (lc (aq.c s)),abl w,ai o] (.t (ai (qX s w o))):=by
 cases w<;>(refine ae (aN f144) aB func144 fun g F hg hF=> ?_;cbv;repeat'(first|((first|refine bm hg (bf _) rfl (fun R0 hR0=> ?_)|refine aU hg (bf _) rfl (fun R0 hR0=> ?_)|refine bm hg (bI _ _) rfl (fun R0 hR0=> ?_)|refine aU hg (bI _ _) rfl (fun R0 hR0=> ?_));cbv)|(split<;>rename_i hh<;>(try rw [hh])<;>(try simp only [dl hg]at hh)<;>cbv)))
 all_goals exact aY hF (by simp only [qX,(fP hg)]at *;subst_vars;(try simp_all);(try(intro hx;omega)))
def jk(s:aq):Bool:=decide (s.dir=1)||decide (s.dir=3)
def kz(s:aq)(rtl:Bool):Bool:=if s.dir=1 then rtl else if s.dir=3 then !rtl else decide (s.dir=4)
def k6(s:aq)(rtl:Bool):Bool:=xor (decide (s.wrap=3)) (rtl&& !jk s)
def sd1(row gM:Bool):Int:=if row then(if gM then 2 else 0)else(if gM then 3 else 1)
def sd2(row gM:Bool):Int:=if row then(if gM then 0 else 2)else(if gM then 1 else 3)
def yC(s k:aq):Int:=if(if k.self=0 then s.items else k.self)=5∧jk s=false then 2 else(if k.self=0 then s.items else k.self)
def Ck(inner at_ size:Int)(gM:Bool):Int:=if gM then wrap64 (wrap64 (inner-at_)-size)else at_
def iP(s:aq)(wide:Bool):Int:=if wide then cl s.colGap else cl s.rowGap
def um(m:bd)(sd:Int)(rtl:Bool):Bool:=decide ((pk m sd rtl).kind=3)
def tak(s:aF)(n:Int):Int:=if s.mode=3∨(s.mode=2∧s.n<n)then cl s.n else cl n
def jU(s:aF):Int:=if s.mode=2∨s.mode=3 then s.n else-1
def A6(s:aF):aF:=if s.mode=3 then⟨2,s.n⟩else s
def knS(s:aF):Int:=if s.mode=3 then s.n else-1
def ul(c:Int):Int:=if c=3 then 2 else if c=4 then 3 else if c=5 then 4 else if c=6 then 5 else 1
def sE(x:av):Bool:=rng x.size 0 1048576&&(rng x.base 0 1048576&&(rng x.before (-1048576) 1048576&&(rng x.behind (-1048576) 1048576&&rng x.align 1 5)))
def onB(x:av):Bool:=decide (x.align=5)&&(!x.autoBefore&& !x.autoBehind)
def xA(x:av):Bool:=decide (x.align=1)&&(!x.autoBefore&& !x.autoBehind)
def De(x:av)(cross base:Int):Int:=
 if sE x=false then 0 else
 let free:=wrap64 (wrap64 (wrap64 (cross-x.size)-x.before)-x.behind)
 if x.autoBefore||x.autoBehind then(if free≤0∨x.autoBefore=false then x.before else if x.autoBehind then wrap64 (x.before+fdv free 2)else wrap64 (x.before+free))
 else if x.align=3 then wrap64 (x.before+free)else if x.align=4 then wrap64 (x.before+fdv free 2)else if x.align=5 then wrap64 (base-x.base)else x.before
theorem gp(s:aq):PC0 117 [.agg (lc (aq.c s))] (.t (abl (jk s))):=by
 refine ae (aN f117) aB func117 fun g F hg hF=> ?_
 cbv
 repeat'(first|(split<;>rename_i hh<;>(try rw [hh])<;>(try simp only [dl hg]at hh)<;>cbv))
 all_goals exact bn hF (by(try simp only [bv hg,fq hg,zqn]);clear hF hg;simp_all [jk])
theorem gx(s:aq):PC0 134 [.agg (lc (aq.c s))] (.t (abl (jk s))):=by
 refine ae (aN f134) aB func134 fun g F hg hF=> ?_
 cbv
 repeat'(first|(split<;>rename_i hh<;>(try rw [hh])<;>(try simp only [dl hg]at hh)<;>cbv))
 all_goals exact bn hF (by(try simp only [bv hg,fq hg,zqn]);clear hF hg;simp_all [jk])
theorem ko(s:aq)(rtl:Bool):PC0 279 [.agg (lc (aq.c s)),abl rtl] (.t (abl (kz s rtl))):=by
 cases rtl<;>(refine ae (aN f279) aB func279 fun g F hg hF=> ?_;cbv;repeat'(first|(split<;>rename_i hh<;>(try rw [hh])<;>(try simp only [dl hg]at hh)<;>cbv)))
 all_goals exact bn hF (by(try simp only [bv hg,fq hg,zqn]);clear hF hg;simp_all [kz])
theorem kO(s:aq)(rtl:Bool):PC0 229 [.agg (lc (aq.c s)),abl rtl] (.t (abl (kz s rtl))):=by
 cases rtl<;>(refine ae (aN f229) aB func229 fun g F hg hF=> ?_;cbv;repeat'(first|(split<;>rename_i hh<;>(try rw [hh])<;>(try simp only [dl hg]at hh)<;>cbv)))
 all_goals exact bn hF (by(try simp only [bv hg,fq hg,zqn]);clear hF hg;simp_all [kz])
theorem jG(s:aq)(rtl:Bool):PC0 278 [.agg (lc (aq.c s)),abl rtl] (.t (abl (k6 s rtl))):=by
 have c1:=gp s
 cases rtl<;>(refine ae (aN f278) aB func278 fun g F hg hF=> ?_;cbv;repeat'(first|(refine br hg c1 rfl (fun R0 hR0=> ?_);cases R0<;>cbv)|(refine aZ hg c1 rfl (fun R0 hR0=> ?_);cases R0<;>cbv)|(split<;>rename_i hh<;>(try rw [hh])<;>(try simp only [dl hg]at hh)<;>cbv)))
 all_goals exact bn hF (by(try simp only [bv hg,fq hg,zqn]);clear hF hg;simp_all [k6])
theorem jP(s:aq)(rtl:Bool):PC0 216 [.agg (lc (aq.c s)),abl rtl] (.t (abl (k6 s rtl))):=by
 have c1:=gx s
 cases rtl<;>(refine ae (aN f216) aB func216 fun g F hg hF=> ?_;cbv;repeat'(first|(refine br hg c1 rfl (fun R0 hR0=> ?_);cases R0<;>cbv)|(refine aZ hg c1 rfl (fun R0 hR0=> ?_);cases R0<;>cbv)|(split<;>rename_i hh<;>(try rw [hh])<;>(try simp only [dl hg]at hh)<;>cbv)))
 all_goals exact bn hF (by(try simp only [bv hg,fq hg,zqn]);clear hF hg;simp_all [k6])
theorem kj(row gM:Bool):PC0 277 [abl row,abl gM] (.tup [ai (sd1 row gM),ai (sd2 row gM)]):=by
 cases row<;>cases gM<;>(refine ae (aN f277) aB func277 fun g F hg hF=> ?_;cbv)
 all_goals exact tU hF (by exact⟨rfl,rfl⟩)
theorem lU(row gM:Bool):PC0 215 [abl row,abl gM] (.tup [ai (sd1 row gM),ai (sd2 row gM)]):=by
 cases row<;>cases gM<;>(refine ae (aN f215) aB func215 fun g F hg hF=> ?_;cbv)
 all_goals exact tU hF (by exact⟨rfl,rfl⟩)
theorem oy(s:aq)(rtl:Bool):PC0 196 [.agg (lc (aq.c s)),abl rtl] (.tup [ai (sd1 (jk s) (kz s rtl)),ai (sd2 (jk s) (kz s rtl))]):=by
 have c1:=gp s
 have c2:=ko s rtl
 have c3:=kj
 refine ae (aN f196) aB func196 fun g F hg hF=> ?_
 cbv
 repeat'(first|(refine br hg c1 rfl (fun R0 hR0=> ?_);cases R0<;>cbv)|(refine aZ hg c1 rfl (fun R0 hR0=> ?_);cases R0<;>cbv)|(refine br hg c2 rfl (fun R0 hR0=> ?_);cases R0<;>cbv)|(refine aZ hg c2 rfl (fun R0 hR0=> ?_);cases R0<;>cbv)|((first|refine BJ hg (c3 _ _) rfl (fun R0 R1 hR0 hR1=> ?_)|refine xG hg (c3 _ _) rfl (fun R0 R1 hR0 hR1=> ?_));cbv)|(split<;>rename_i hh<;>(try rw [hh])<;>(try simp only [dl hg]at hh)<;>cbv))
 all_goals exact tU hF (by subst_vars;simp_all)
theorem jM(s:aq)(rtl:Bool):PC0 145 [.agg (lc (aq.c s)),abl rtl] (.tup [ai (sd1 (jk s) (kz s rtl)),ai (sd2 (jk s) (kz s rtl))]):=by
 have c1:=gx s
 have c2:=kO s rtl
 have c3:=lU
 refine ae (aN f145) aB func145 fun g F hg hF=> ?_
 cbv
 repeat'(first|(refine br hg c1 rfl (fun R0 hR0=> ?_);cases R0<;>cbv)|(refine aZ hg c1 rfl (fun R0 hR0=> ?_);cases R0<;>cbv)|(refine br hg c2 rfl (fun R0 hR0=> ?_);cases R0<;>cbv)|(refine aZ hg c2 rfl (fun R0 hR0=> ?_);cases R0<;>cbv)|((first|refine BJ hg (c3 _ _) rfl (fun R0 R1 hR0 hR1=> ?_)|refine xG hg (c3 _ _) rfl (fun R0 R1 hR0 hR1=> ?_));cbv)|(split<;>rename_i hh<;>(try rw [hh])<;>(try simp only [dl hg]at hh)<;>cbv))
 all_goals exact tU hF (by subst_vars;simp_all)
theorem nJ(s:aq)(rtl:Bool):PC0 195 [.agg (lc (aq.c s)),abl rtl] (.tup [ai (sd1 (!jk s) (k6 s rtl)),ai (sd2 (!jk s) (k6 s rtl))]):=by
 have c1:=gp s
 have c2:=jG s rtl
 have c3:=kj
 refine ae (aN f195) aB func195 fun g F hg hF=> ?_
 cbv
 repeat'(first|(refine br hg c1 rfl (fun R0 hR0=> ?_);cases R0<;>cbv)|(refine aZ hg c1 rfl (fun R0 hR0=> ?_);cases R0<;>cbv)|(refine br hg c2 rfl (fun R0 hR0=> ?_);cases R0<;>cbv)|(refine aZ hg c2 rfl (fun R0 hR0=> ?_);cases R0<;>cbv)|((first|refine BJ hg (c3 _ _) rfl (fun R0 R1 hR0 hR1=> ?_)|refine xG hg (c3 _ _) rfl (fun R0 R1 hR0 hR1=> ?_));cbv)|(split<;>rename_i hh<;>(try rw [hh])<;>(try simp only [dl hg]at hh)<;>cbv))
 all_goals exact tU hF (by subst_vars;simp_all)
theorem i8(s:aq)(rtl:Bool):PC0 128 [.agg (lc (aq.c s)),abl rtl] (.tup [ai (sd1 (!jk s) (k6 s rtl)),ai (sd2 (!jk s) (k6 s rtl))]):=by
 have c1:=gx s
 have c2:=jP s rtl
 have c3:=lU
 refine ae (aN f128) aB func128 fun g F hg hF=> ?_
 cbv
 repeat'(first|(refine br hg c1 rfl (fun R0 hR0=> ?_);cases R0<;>cbv)|(refine aZ hg c1 rfl (fun R0 hR0=> ?_);cases R0<;>cbv)|(refine br hg c2 rfl (fun R0 hR0=> ?_);cases R0<;>cbv)|(refine aZ hg c2 rfl (fun R0 hR0=> ?_);cases R0<;>cbv)|((first|refine BJ hg (c3 _ _) rfl (fun R0 R1 hR0 hR1=> ?_)|refine xG hg (c3 _ _) rfl (fun R0 R1 hR0 hR1=> ?_));cbv)|(split<;>rename_i hh<;>(try rw [hh])<;>(try simp only [dl hg]at hh)<;>cbv))
 all_goals exact tU hF (by subst_vars;simp_all)
theorem lQ(s k:aq):PC0 112 [.agg (lc (aq.c s)),.agg (lc (aq.c k))] (.t (ai (yC s k))):=by
 have c1:=gp s
 refine ae (aN f112) aB func112 fun g F hg hF=> ?_
 cbv
 repeat'(first|(refine br hg c1 rfl (fun R0 hR0=> ?_);cases R0<;>cbv)|(refine aZ hg c1 rfl (fun R0 hR0=> ?_);cases R0<;>cbv)|(split<;>rename_i hh<;>(try rw [hh])<;>(try simp only [dl hg]at hh)<;>cbv))
 all_goals exact aY hF (by simp only [yC];grind)
theorem lV(s k:aq):PC0 131 [.agg (lc (aq.c s)),.agg (lc (aq.c k))] (.t (ai (yC s k))):=by
 have c1:=gx s
 refine ae (aN f131) aB func131 fun g F hg hF=> ?_
 cbv
 repeat'(first|(refine br hg c1 rfl (fun R0 hR0=> ?_);cases R0<;>cbv)|(refine aZ hg c1 rfl (fun R0 hR0=> ?_);cases R0<;>cbv)|(split<;>rename_i hh<;>(try rw [hh])<;>(try simp only [dl hg]at hh)<;>cbv))
 all_goals exact aY hF (by simp only [yC];grind)
theorem kl(i a s:Int)(b:Bool):PC0 320 [ai i,ai a,ai s,abl b] (.t (ai (Ck i a s b))):=by
 cases b<;>(refine ae (aN f320) aB func320 fun g F hg hF=> ?_;cbv)
 all_goals exact aY hF (by(try simp only [de hg]);rfl)
theorem kJ(i a s:Int)(b:Bool):PC0 270 [ai i,ai a,ai s,abl b] (.t (ai (Ck i a s b))):=by
 cases b<;>(refine ae (aN f270) aB func270 fun g F hg hF=> ?_;cbv)
 all_goals exact aY hF (by(try simp only [de hg]);rfl)
theorem gq(s:aq)(w:Bool):PC0 169 [.agg (lc (aq.c s)),abl w] (.t (ai (iP s w))):=by
 cases w<;>(refine ae (aN f169) aB func169 fun g F hg hF=> ?_;cbv;repeat'(first|((first|refine bm hg (aO _) rfl (fun R0 hR0=> ?_)|refine aU hg (aO _) rfl (fun R0 hR0=> ?_));cbv)|(split<;>rename_i hh<;>(try rw [hh])<;>(try simp only [dl hg]at hh)<;>cbv)))
 all_goals exact aY hF (by subst_vars;rfl)
theorem ip(s:aq)(w:Bool):PC0 174 [.agg (lc (aq.c s)),abl w] (.t (ai (iP s w))):=by
 cases w<;>(refine ae (aN f174) aB func174 fun g F hg hF=> ?_;cbv;repeat'(first|((first|refine bm hg (bf _) rfl (fun R0 hR0=> ?_)|refine aU hg (bf _) rfl (fun R0 hR0=> ?_));cbv)|(split<;>rename_i hh<;>(try rw [hh])<;>(try simp only [dl hg]at hh)<;>cbv)))
 all_goals exact aY hF (by subst_vars;rfl)
theorem kr(s:bd)(sd:Int)(rtl:Bool):PC0 198 [.agg (lc (bd.c s)),ai sd,abl rtl] (.t (abl (um s sd rtl))):=by
 have c1:=mw s sd rtl
 refine ae (aN f198) aB func198 fun g F hg hF=> ?_
 cbv
 repeat'(first|((first|refine nY hg c1 rfl (fun R0 R1 hR0 hR1=> ?_)|refine jb hg c1 rfl (fun R0 R1 hR0 hR1=> ?_));cbv)|(split<;>rename_i hh<;>(try rw [hh])<;>(try simp only [dl hg]at hh)<;>cbv))
 all_goals exact bn hF (by(try simp only [bv hg]);subst_vars;simp [um];try exact(zqn _ _))
theorem dB(s:bd)(sd:Int)(rtl:Bool):PC0 130 [.agg (lc (bd.c s)),ai sd,abl rtl] (.t (abl (um s sd rtl))):=by
 have c1:=m8 s sd rtl
 refine ae (aN f130) aB func130 fun g F hg hF=> ?_
 cbv
 repeat'(first|((first|refine nY hg c1 rfl (fun R0 R1 hR0 hR1=> ?_)|refine jb hg c1 rfl (fun R0 R1 hR0 hR1=> ?_));cbv)|(split<;>rename_i hh<;>(try rw [hh])<;>(try simp only [dl hg]at hh)<;>cbv))
 all_goals exact bn hF (by(try simp only [bv hg]);subst_vars;simp [um];try exact(zqn _ _))
theorem dJ(m n k:Int):PC0 249 [.agg [.J m,.J n],ai k] (.t (ai (tak ⟨m,n⟩ k))):=by
 refine ae (aN f249) aB func249 fun g F hg hF=> ?_
 cbv
 repeat'(first|((first|refine bm hg (aO _) rfl (fun R0 hR0=> ?_)|refine aU hg (aO _) rfl (fun R0 hR0=> ?_));cbv)|(split<;>rename_i hh<;>(try rw [hh])<;>(try simp only [dl hg]at hh)<;>cbv))
 all_goals exact aY hF (by simp only [tak];subst_vars;grind)
theorem fj(m n k:Int):PC0 176 [.agg [.J m,.J n],ai k] (.t (ai (tak ⟨m,n⟩ k))):=by
 refine ae (aN f176) aB func176 fun g F hg hF=> ?_
 cbv
 repeat'(first|((first|refine bm hg (bf _) rfl (fun R0 hR0=> ?_)|refine aU hg (bf _) rfl (fun R0 hR0=> ?_));cbv)|(split<;>rename_i hh<;>(try rw [hh])<;>(try simp only [dl hg]at hh)<;>cbv))
 all_goals exact aY hF (by simp only [tak];subst_vars;grind)
theorem gO(m n:Int):PC0 170 [.agg [.J m,.J n]] (.t (ai (jU ⟨m,n⟩))):=by
 refine ae (aN f170) aB func170 fun g F hg hF=> ?_
 cbv
 repeat'(first|(split<;>rename_i hh<;>(try rw [hh])<;>(try simp only [dl hg]at hh)<;>cbv))
 all_goals exact aY hF (by simp only [jU];grind)
theorem na(m n:Int):PC0 175 [.agg [.J m,.J n]] (.t (ai (jU ⟨m,n⟩))):=by
 refine ae (aN f175) aB func175 fun g F hg hF=> ?_
 cbv
 repeat'(first|(split<;>rename_i hh<;>(try rw [hh])<;>(try simp only [dl hg]at hh)<;>cbv))
 all_goals exact aY hF (by simp only [jU];grind)
theorem kq(m n:Int):PC0 115 [.agg [.J m,.J n]] (.t (agP (A6 ⟨m,n⟩))):=by
 refine ae (aN f115) aB func115 fun g F hg hF=> ?_
 cbv
 repeat'(first|(split<;>rename_i hh<;>(try rw [hh])<;>(try simp only [dl hg]at hh)<;>cbv))
 all_goals exact kY hF (by simp only [A6];grind)
theorem kP(m n:Int):PC0 132 [.agg [.J m,.J n]] (.t (agP (A6 ⟨m,n⟩))):=by
 refine ae (aN f132) aB func132 fun g F hg hF=> ?_
 cbv
 repeat'(first|(split<;>rename_i hh<;>(try rw [hh])<;>(try simp only [dl hg]at hh)<;>cbv))
 all_goals exact kY hF (by simp only [A6];grind)
theorem dh(m n:Int):PC0 108 [.agg [.J m,.J n]] (.t (ai (knS ⟨m,n⟩))):=by
 refine ae (aN f108) aB func108 fun g F hg hF=> ?_
 cbv
 repeat'(first|(split<;>rename_i hh<;>(try rw [hh])<;>(try simp only [dl hg]at hh)<;>cbv))
 all_goals exact aY hF (by simp only [knS];grind)
theorem ei(m n:Int):PC0 124 [.agg [.J m,.J n]] (.t (ai (knS ⟨m,n⟩))):=by
 refine ae (aN f124) aB func124 fun g F hg hF=> ?_
 cbv
 repeat'(first|(split<;>rename_i hh<;>(try rw [hh])<;>(try simp only [dl hg]at hh)<;>cbv))
 all_goals exact aY hF (by simp only [knS];grind)
theorem nD(c:Int):PC0 353 [ai c] (.t (ai (ul c))):=by
 refine ae (aN f353) aB func353 fun g F hg hF=> ?_
 cbv
 repeat'(first|(split<;>rename_i hh<;>(try rw [hh])<;>(try simp only [dl hg]at hh)<;>cbv))
 all_goals exact aY hF (by simp only [ul];grind)
theorem oK(c:Int):PC0 328 [ai c] (.t (ai (ul c))):=by
 refine ae (aN f328) aB func328 fun g F hg hF=> ?_
 cbv
 repeat'(first|(split<;>rename_i hh<;>(try rw [hh])<;>(try simp only [dl hg]at hh)<;>cbv))
 all_goals exact aY hF (by simp only [ul];grind)
theorem mu(x:av):PC0 357 [.agg (lc (av.c x))] (.t (abl (sE x))):=by
 refine ae (aN f357) aB func357 fun g F hg hF=> ?_
 cbv
 repeat'(first|(refine br hg (bp _ _ _) rfl (fun R0 hR0=> ?_);cases R0<;>cbv)|(refine aZ hg (bp _ _ _) rfl (fun R0 hR0=> ?_);cases R0<;>cbv)|(split<;>rename_i hh<;>(try rw [hh])<;>(try simp only [dl hg]at hh)<;>cbv))
 all_goals exact bn hF (by(try simp only [bv hg,fq hg,zqn]);clear hF hg;simp_all [sE])
theorem m7(x:av):PC0 333 [.agg (lc (av.c x))] (.t (abl (sE x))):=by
 refine ae (aN f333) aB func333 fun g F hg hF=> ?_
 cbv
 repeat'(first|(refine br hg (bZ _ _ _) rfl (fun R0 hR0=> ?_);cases R0<;>cbv)|(refine aZ hg (bZ _ _ _) rfl (fun R0 hR0=> ?_);cases R0<;>cbv)|(split<;>rename_i hh<;>(try rw [hh])<;>(try simp only [dl hg]at hh)<;>cbv))
 all_goals exact bn hF (by(try simp only [bv hg,fq hg,zqn]);clear hF hg;simp_all [sE])
theorem iv(x:av):PC0 202 [.agg (lc (av.c x))] (.t (abl (x.autoBefore||x.autoBehind))):=by
 obtain⟨s,b,c,p,q,a,e⟩:=x
 cases p<;>cases q<;>(refine ae (aN f202) aB func202 fun g F hg hF=> ?_;cbv)
 all_goals exact bn hF rfl
theorem nj(x:av):PC0 332 [.agg (lc (av.c x))] (.t (abl (onB x))):=by
 obtain⟨s,b,c,p,q,a,e⟩:=x
 cases p<;>cases q<;>(refine ae (aN f332) aB func332 fun g F hg hF=> ?_;cbv;repeat'(first|(split<;>rename_i hh<;>(try rw [hh])<;>(try simp only [dl hg]at hh)<;>cbv)))
 all_goals exact bn hF (by(try simp only [bv hg,fq hg,zqn]);clear hF hg;simp_all [onB,xA])
theorem vc(x:av):PC0 266 [.agg (lc (av.c x))] (.t (abl (xA x))):=by
 obtain⟨s,b,c,p,q,a,e⟩:=x
 cases p<;>cases q<;>(refine ae (aN f266) aB func266 fun g F hg hF=> ?_;cbv;repeat'(first|(split<;>rename_i hh<;>(try rw [hh])<;>(try simp only [dl hg]at hh)<;>cbv)))
 all_goals exact bn hF (by(try simp only [bv hg,fq hg,zqn]);clear hF hg;simp_all [onB,xA])
theorem mB(x:av):PC0 356 [.agg (lc (av.c x))] (.t (abl (onB x))):=by
 have c1:=iv x
 obtain⟨s,b,c,p,q,a,e⟩:=x
 cases p<;>cases q<;>(refine ae (aN f356) aB func356 fun g F hg hF=> ?_;cbv;repeat'(first|(refine br hg c1 rfl (fun R0 hR0=> ?_);cases R0<;>cbv)|(refine aZ hg c1 rfl (fun R0 hR0=> ?_);cases R0<;>cbv)|(split<;>rename_i hh<;>(try rw [hh])<;>(try simp only [dl hg]at hh)<;>cbv)))
 all_goals exact bn hF (by(try simp only [bv hg,fq hg,zqn]);clear hF hg c1;simp_all [onB,xA])
theorem n9(x:av):PC0 113 [.agg (lc (av.c x))] (.t (abl (xA x))):=by
 have c1:=iv x
 obtain⟨s,b,c,p,q,a,e⟩:=x
 cases p<;>cases q<;>(refine ae (aN f113) aB func113 fun g F hg hF=> ?_;cbv;repeat'(first|(refine br hg c1 rfl (fun R0 hR0=> ?_);cases R0<;>cbv)|(refine aZ hg c1 rfl (fun R0 hR0=> ?_);cases R0<;>cbv)|(split<;>rename_i hh<;>(try rw [hh])<;>(try simp only [dl hg]at hh)<;>cbv)))
 all_goals exact bn hF (by(try simp only [bv hg,fq hg,zqn]);clear hF hg c1;simp_all [onB,xA])
theorem lM(a b:Int):PC0 184 [ai a,ai b] (.t (ai (if b<a then b else a))):=by
 refine ae (aN f184) aB func184 fun g F hg hF=> ?_
 cbv
 repeat'(first|(split<;>rename_i hh<;>(try rw [hh])<;>(try simp only [dl hg]at hh)<;>cbv))
 all_goals exact aY hF (by grind)
theorem iu(x:av):PC0 114 [.agg (lc (av.c x))] (.t (ai (wrap64 (x.before+x.behind)))):=by
 refine ae (aN f114) aB func114 fun g F hg hF=> ?_
 cbv
 all_goals exact aY hF (by rw [aK hg])
theorem mA(x:av)(cross base:Int):PC0 321 [.agg (lc (av.c x)),ai cross,ai base] (.t (ai (De x cross base))):=by
 have c1:=iv x
 have c2:=mu x
 obtain⟨s,b,c,p,q,a,e⟩:=x
 cases p<;>cases q<;>(refine ae (aN f321) aB func321 fun g F hg hF=> ?_;cbv;repeat'(first|(refine br hg c1 rfl (fun R0 hR0=> ?_);cases R0<;>cbv)|(refine aZ hg c1 rfl (fun R0 hR0=> ?_);cases R0<;>cbv)|(refine br hg c2 rfl (fun R0 hR0=> ?_);cases R0<;>cbv)|(refine aZ hg c2 rfl (fun R0 hR0=> ?_);cases R0<;>cbv)|((first|refine bm hg (bH _ _) rfl (fun R0 hR0=> ?_)|refine aU hg (bH _ _) rfl (fun R0 hR0=> ?_));cbv)|(split<;>rename_i hh<;>(try rw [hh])<;>(try simp only [dl hg]at hh)<;>cbv)))
 all_goals exact aY hF (by(try simp only [de hg,aK hg]at *);(try clear c1);clear c2 hF hg;simp only [De];grind)
theorem nh(x:av)(cross base:Int):PC0 272 [.agg (lc (av.c x)),ai cross,ai base] (.t (ai (De x cross base))):=by
 have c2:=m7 x
 obtain⟨s,b,c,p,q,a,e⟩:=x
 cases p<;>cases q<;>(refine ae (aN f272) aB func272 fun g F hg hF=> ?_;cbv;repeat'(first|(refine br hg c2 rfl (fun R0 hR0=> ?_);cases R0<;>cbv)|(refine aZ hg c2 rfl (fun R0 hR0=> ?_);cases R0<;>cbv)|((first|refine bm hg (bI _ _) rfl (fun R0 hR0=> ?_)|refine aU hg (bI _ _) rfl (fun R0 hR0=> ?_));cbv)|(split<;>rename_i hh<;>(try rw [hh])<;>(try simp only [dl hg]at hh)<;>cbv)))
 all_goals exact aY hF (by(try simp only [de hg,aK hg]at *);(try clear c1);clear c2 hF hg;simp only [De];grind)
end Go.Proofs.YtdnnffbbhijmkaaGreat
