/- Axes, gaps, spaces, sides: the small functions of the layout. -/
import Derived.Test.YtdnnffbbhijmkaaGreatQaw
set_option linter.unusedVariables false
set_option linter.unusedSimpArgs false
set_option maxHeartbeats 8000000
namespace Go.Proofs.YtdnnffbbhijmkaaGreat
open Go.ChangeShapes Go.WideShapes Go.ChangeAt Go.RowKit Am Go.Proofs.Tryz
set_option maxRecDepth 100000
def oH(s:bd)(sd:Int)(rtl:Bool)(base:Int):Int:=if kn (pT s sd rtl) base=false then 0 else sg (DT (pT s sd rtl) base)
def pk(s:aw)(less:Int):aw:=if s.mode=1 then s else⟨s.mode,cl (wrap64 (cl s.n-cl less))⟩
def rC(s:ar)(w:Bool)(o:Int):Int:=if s.ratio≤0∨o<0 then-1 else if w then cl (fdv (wrap64 (cl o*cl s.ratio)) 64)else cl (fdv (wrap64 (cl o*64)) (cl s.ratio))
theorem kw(s:bd)(sd:Int)(rtl:Bool)(base:Int):PC0 197 [.agg (lc (bd.c s)),ai sd,abl rtl,ai base] (.i (oH s sd rtl base)):=by
 obtain⟨⟨a0,a1⟩,⟨a2,a3⟩,⟨a4,a5⟩,⟨a6,a7⟩,⟨a8,a9⟩,⟨a10,a11⟩⟩:=s
 have zc1:=mU (⟨⟨a0,a1⟩,⟨a2,a3⟩,⟨a4,a5⟩,⟨a6,a7⟩,⟨a8,a9⟩,⟨a10,a11⟩⟩:bd)
 refine ae (aK f197) aD func197 fun g F hg hF=> ?_
 cbv
 repeat'(first|((first|refine r9 hg (zc1 _ _) rfl (fun R0 R1 hR0 hR1=> ?_)|refine mh hg (zc1 _ _) rfl (fun R0 R1 hR0 hR1=> ?_));cbv)|(refine br hg (fh _ _ _) rfl (fun R0 hR0=> ?_);cases R0<;>cbv)|(refine aZ hg (fh _ _ _) rfl (fun R0 hR0=> ?_);cases R0<;>cbv)|((first|refine bq hg (fz _ _ _) rfl (fun R0 hR0=> ?_)|refine aX hg (fz _ _ _) rfl (fun R0 hR0=> ?_)|refine bq hg (bQ _) rfl (fun R0 hR0=> ?_)|refine aX hg (bQ _) rfl (fun R0 hR0=> ?_));cbv)|(split<;>rename_i hh<;>(try rw [hh])<;>(try simp only [dp hg]at hh)<;>cbv))
 all_goals exact ba hF (by simp only [oH];subst_vars;simp_all)
theorem lg(s:bd)(sd:Int)(rtl:Bool)(base:Int):PC0 217 [.agg (lc (bd.c s)),ai sd,abl rtl,ai base] (.i (oH s sd rtl base)):=by
 obtain⟨⟨a0,a1⟩,⟨a2,a3⟩,⟨a4,a5⟩,⟨a6,a7⟩,⟨a8,a9⟩,⟨a10,a11⟩⟩:=s
 have zc1:=nB (⟨⟨a0,a1⟩,⟨a2,a3⟩,⟨a4,a5⟩,⟨a6,a7⟩,⟨a8,a9⟩,⟨a10,a11⟩⟩:bd)
 refine ae (aK f217) aD func217 fun g F hg hF=> ?_
 cbv
 repeat'(first|((first|refine r9 hg (zc1 _ _) rfl (fun R0 R1 hR0 hR1=> ?_)|refine mh hg (zc1 _ _) rfl (fun R0 R1 hR0 hR1=> ?_));cbv)|(refine br hg (fp _ _ _) rfl (fun R0 hR0=> ?_);cases R0<;>cbv)|(refine aZ hg (fp _ _ _) rfl (fun R0 hR0=> ?_);cases R0<;>cbv)|((first|refine bq hg (fE _ _ _) rfl (fun R0 hR0=> ?_)|refine aX hg (fE _ _ _) rfl (fun R0 hR0=> ?_)|refine bq hg (cu _) rfl (fun R0 hR0=> ?_)|refine aX hg (cu _) rfl (fun R0 hR0=> ?_));cbv)|(split<;>rename_i hh<;>(try rw [hh])<;>(try simp only [dp hg]at hh)<;>cbv))
 all_goals exact ba hF (by simp only [oH];subst_vars;simp_all)
theorem eU(m n less:Int):PC0 116 [.agg [.J m,.J n],ai less] (.t (agP (pk ⟨m,n⟩ less))):=by
 refine ae (aK f116) aD func116 fun g F hg hF=> ?_
 cbv
 repeat'(first|((first|refine bq hg (aO _) rfl (fun R0 hR0=> ?_)|refine aX hg (aO _) rfl (fun R0 hR0=> ?_));cbv)|(split<;>rename_i hh<;>(try rw [hh])<;>(try simp only [dp hg]at hh)<;>cbv))
 all_goals exact mC hF (by simp only [pk,(dd hg)]at *;subst_vars;simp_all)
theorem gl(m n less:Int):PC0 133 [.agg [.J m,.J n],ai less] (.t (agP (pk ⟨m,n⟩ less))):=by
 refine ae (aK f133) aD func133 fun g F hg hF=> ?_
 cbv
 repeat'(first|((first|refine bq hg (bf _) rfl (fun R0 hR0=> ?_)|refine aX hg (bf _) rfl (fun R0 hR0=> ?_));cbv)|(split<;>rename_i hh<;>(try rw [hh])<;>(try simp only [dp hg]at hh)<;>cbv))
 all_goals exact mC hF (by simp only [pk,(dd hg)]at *;subst_vars;simp_all)
theorem l8(s:ar)(w:Bool)(o:Int):PC0 141 [.agg (lc (ar.c s)),abl w,ai o] (.i (rC s w o)):=by
 cases w<;>(refine ae (aK f141) aD func141 fun g F hg hF=> ?_;cbv;repeat'(first|((first|refine bq hg (aO _) rfl (fun R0 hR0=> ?_)|refine aX hg (aO _) rfl (fun R0 hR0=> ?_)|refine bq hg (bJ _ _) rfl (fun R0 hR0=> ?_)|refine aX hg (bJ _ _) rfl (fun R0 hR0=> ?_));cbv)|(split<;>rename_i hh<;>(try rw [hh])<;>(try simp only [dp hg]at hh)<;>cbv)))
 all_goals exact ba hF (by simp only [rC,(fO hg)]at *;subst_vars;(try simp_all);(try(intro hx;omega)))
theorem i6(s:ar)(w:Bool)(o:Int):PC0 144 [.agg (lc (ar.c s)),abl w,ai o] (.i (rC s w o)):=by
 cases w<;>(refine ae (aK f144) aD func144 fun g F hg hF=> ?_;cbv;repeat'(first|((first|refine bq hg (bf _) rfl (fun R0 hR0=> ?_)|refine aX hg (bf _) rfl (fun R0 hR0=> ?_)|refine bq hg (bK _ _) rfl (fun R0 hR0=> ?_)|refine aX hg (bK _ _) rfl (fun R0 hR0=> ?_));cbv)|(split<;>rename_i hh<;>(try rw [hh])<;>(try simp only [dp hg]at hh)<;>cbv)))
 all_goals exact ba hF (by simp only [rC,(fO hg)]at *;subst_vars;(try simp_all);(try(intro hx;omega)))
def jq(s:ar):Bool:=decide (s.dir=1)||decide (s.dir=3)
def kO(s:ar)(rtl:Bool):Bool:=if s.dir=1 then rtl else if s.dir=3 then !rtl else decide (s.dir=4)
def ll(s:ar)(rtl:Bool):Bool:=xor (decide (s.wrap=3)) (rtl&& !jq s)
def sd1(row gX:Bool):Int:=if row then(if gX then 2 else 0)else(if gX then 3 else 1)
def sd2(row gX:Bool):Int:=if row then(if gX then 0 else 2)else(if gX then 1 else 3)
def yZ(s k:ar):Int:=if(if k.self=0 then s.items else k.self)=5∧jq s=false then 2 else(if k.self=0 then s.items else k.self)
def CT(inner at_ size:Int)(gX:Bool):Int:=if gX then wrap64 (wrap64 (inner-at_)-size)else at_
def fP(s:ar)(wide:Bool):Int:=if wide then cl s.colGap else cl s.rowGap
def uS(m:bd)(sd:Int)(rtl:Bool):Bool:=decide ((pT m sd rtl).kind=3)
def tak(s:aw)(n:Int):Int:=if s.mode=3∨(s.mode=2∧s.n<n)then cl s.n else cl n
def gW(s:aw):Int:=if s.mode=2∨s.mode=3 then s.n else-1
def BG(s:aw):aw:=if s.mode=3 then⟨2,s.n⟩else s
def knS(s:aw):Int:=if s.mode=3 then s.n else-1
def A9(s:aw):Bool:=if s.mode=1 then decide (s.n=0)else(decide (s.mode=2)||decide (s.mode=3))&&rng s.n 0 1048576
def uP(c:Int):Int:=if c=3 then 2 else if c=4 then 3 else if c=5 then 4 else if c=6 then 5 else 1
def tf(x:av):Bool:=rng x.size 0 1048576&&(rng x.base 0 1048576&&(rng x.before (-1048576) 1048576&&(rng x.behind (-1048576) 1048576&&rng x.align 1 5)))
def onB(x:av):Bool:=decide (x.align=5)&&(!x.autoBefore&& !x.autoBehind)
def xW(x:av):Bool:=decide (x.align=1)&&(!x.autoBefore&& !x.autoBehind)
def DN(x:av)(cross base:Int):Int:=
 if tf x=false then 0 else
 let free:=wrap64 (wrap64 (wrap64 (cross-x.size)-x.before)-x.behind)
 if x.autoBefore||x.autoBehind then(if free≤0∨x.autoBefore=false then x.before else if x.autoBehind then wrap64 (x.before+fdv free 2)else wrap64 (x.before+free))
 else if x.align=3 then wrap64 (x.before+free)else if x.align=4 then wrap64 (x.before+fdv free 2)else if x.align=5 then wrap64 (base-x.base)else x.before
theorem gy(s:ar):PC0 117 [.agg (lc (ar.c s))] (.t (abl (jq s))):=by
 refine ae (aK f117) aD func117 fun g F hg hF=> ?_
 cbv
 repeat'(first|(split<;>rename_i hh<;>(try rw [hh])<;>(try simp only [dp hg]at hh)<;>cbv))
 all_goals exact bj hF (by(try simp only [bv hg,fc hg,zqn]);clear hF hg;simp_all [jq])
theorem gD(s:ar):PC0 134 [.agg (lc (ar.c s))] (.t (abl (jq s))):=by
 refine ae (aK f134) aD func134 fun g F hg hF=> ?_
 cbv
 repeat'(first|(split<;>rename_i hh<;>(try rw [hh])<;>(try simp only [dp hg]at hh)<;>cbv))
 all_goals exact bj hF (by(try simp only [bv hg,fc hg,zqn]);clear hF hg;simp_all [jq])
theorem kx(s:ar)(rtl:Bool):PC0 279 [.agg (lc (ar.c s)),abl rtl] (.t (abl (kO s rtl))):=by
 cases rtl<;>(refine ae (aK f279) aD func279 fun g F hg hF=> ?_;cbv;repeat'(first|(split<;>rename_i hh<;>(try rw [hh])<;>(try simp only [dp hg]at hh)<;>cbv)))
 all_goals exact bj hF (by(try simp only [bv hg,fc hg,zqn]);clear hF hg;simp_all [kO])
theorem lh(s:ar)(rtl:Bool):PC0 229 [.agg (lc (ar.c s)),abl rtl] (.t (abl (kO s rtl))):=by
 cases rtl<;>(refine ae (aK f229) aD func229 fun g F hg hF=> ?_;cbv;repeat'(first|(split<;>rename_i hh<;>(try rw [hh])<;>(try simp only [dp hg]at hh)<;>cbv)))
 all_goals exact bj hF (by(try simp only [bv hg,fc hg,zqn]);clear hF hg;simp_all [kO])
theorem jO(s:ar)(rtl:Bool):PC0 278 [.agg (lc (ar.c s)),abl rtl] (.t (abl (ll s rtl))):=by
 have c1:=gy s
 cases rtl<;>(refine ae (aK f278) aD func278 fun g F hg hF=> ?_;cbv;repeat'(first|(refine br hg c1 rfl (fun R0 hR0=> ?_);cases R0<;>cbv)|(refine aZ hg c1 rfl (fun R0 hR0=> ?_);cases R0<;>cbv)|(split<;>rename_i hh<;>(try rw [hh])<;>(try simp only [dp hg]at hh)<;>cbv)))
 all_goals exact bj hF (by(try simp only [bv hg,fc hg,zqn]);clear hF hg;simp_all [ll])
theorem jY(s:ar)(rtl:Bool):PC0 216 [.agg (lc (ar.c s)),abl rtl] (.t (abl (ll s rtl))):=by
 have c1:=gD s
 cases rtl<;>(refine ae (aK f216) aD func216 fun g F hg hF=> ?_;cbv;repeat'(first|(refine br hg c1 rfl (fun R0 hR0=> ?_);cases R0<;>cbv)|(refine aZ hg c1 rfl (fun R0 hR0=> ?_);cases R0<;>cbv)|(split<;>rename_i hh<;>(try rw [hh])<;>(try simp only [dp hg]at hh)<;>cbv)))
 all_goals exact bj hF (by(try simp only [bv hg,fc hg,zqn]);clear hF hg;simp_all [ll])
theorem kt(row gX:Bool):PC0 277 [abl row,abl gX] (.tup [ai (sd1 row gX),ai (sd2 row gX)]):=by
 cases row<;>cases gX<;>(refine ae (aK f277) aD func277 fun g F hg hF=> ?_;cbv)
 all_goals exact uz hF (by exact⟨rfl,rfl⟩)
theorem me(row gX:Bool):PC0 215 [abl row,abl gX] (.tup [ai (sd1 row gX),ai (sd2 row gX)]):=by
 cases row<;>cases gX<;>(refine ae (aK f215) aD func215 fun g F hg hF=> ?_;cbv)
 all_goals exact uz hF (by exact⟨rfl,rfl⟩)
theorem oV(s:ar)(rtl:Bool):PC0 196 [.agg (lc (ar.c s)),abl rtl] (.tup [ai (sd1 (jq s) (kO s rtl)),ai (sd2 (jq s) (kO s rtl))]):=by
 have c1:=gy s
 have c2:=kx s rtl
 have c3:=kt
 refine ae (aK f196) aD func196 fun g F hg hF=> ?_
 cbv
 repeat'(first|(refine br hg c1 rfl (fun R0 hR0=> ?_);cases R0<;>cbv)|(refine aZ hg c1 rfl (fun R0 hR0=> ?_);cases R0<;>cbv)|(refine br hg c2 rfl (fun R0 hR0=> ?_);cases R0<;>cbv)|(refine aZ hg c2 rfl (fun R0 hR0=> ?_);cases R0<;>cbv)|((first|refine Cl hg (c3 _ _) rfl (fun R0 R1 hR0 hR1=> ?_)|refine yd hg (c3 _ _) rfl (fun R0 R1 hR0 hR1=> ?_));cbv)|(split<;>rename_i hh<;>(try rw [hh])<;>(try simp only [dp hg]at hh)<;>cbv))
 all_goals exact uz hF (by subst_vars;simp_all)
theorem jT(s:ar)(rtl:Bool):PC0 145 [.agg (lc (ar.c s)),abl rtl] (.tup [ai (sd1 (jq s) (kO s rtl)),ai (sd2 (jq s) (kO s rtl))]):=by
 have c1:=gD s
 have c2:=lh s rtl
 have c3:=me
 refine ae (aK f145) aD func145 fun g F hg hF=> ?_
 cbv
 repeat'(first|(refine br hg c1 rfl (fun R0 hR0=> ?_);cases R0<;>cbv)|(refine aZ hg c1 rfl (fun R0 hR0=> ?_);cases R0<;>cbv)|(refine br hg c2 rfl (fun R0 hR0=> ?_);cases R0<;>cbv)|(refine aZ hg c2 rfl (fun R0 hR0=> ?_);cases R0<;>cbv)|((first|refine Cl hg (c3 _ _) rfl (fun R0 R1 hR0 hR1=> ?_)|refine yd hg (c3 _ _) rfl (fun R0 R1 hR0 hR1=> ?_));cbv)|(split<;>rename_i hh<;>(try rw [hh])<;>(try simp only [dp hg]at hh)<;>cbv))
 all_goals exact uz hF (by subst_vars;simp_all)
theorem n3(s:ar)(rtl:Bool):PC0 195 [.agg (lc (ar.c s)),abl rtl] (.tup [ai (sd1 (!jq s) (ll s rtl)),ai (sd2 (!jq s) (ll s rtl))]):=by
 have c1:=gy s
 have c2:=jO s rtl
 have c3:=kt
 refine ae (aK f195) aD func195 fun g F hg hF=> ?_
 cbv
 repeat'(first|(refine br hg c1 rfl (fun R0 hR0=> ?_);cases R0<;>cbv)|(refine aZ hg c1 rfl (fun R0 hR0=> ?_);cases R0<;>cbv)|(refine br hg c2 rfl (fun R0 hR0=> ?_);cases R0<;>cbv)|(refine aZ hg c2 rfl (fun R0 hR0=> ?_);cases R0<;>cbv)|((first|refine Cl hg (c3 _ _) rfl (fun R0 R1 hR0 hR1=> ?_)|refine yd hg (c3 _ _) rfl (fun R0 R1 hR0 hR1=> ?_));cbv)|(split<;>rename_i hh<;>(try rw [hh])<;>(try simp only [dp hg]at hh)<;>cbv))
 all_goals exact uz hF (by subst_vars;simp_all)
theorem jg(s:ar)(rtl:Bool):PC0 128 [.agg (lc (ar.c s)),abl rtl] (.tup [ai (sd1 (!jq s) (ll s rtl)),ai (sd2 (!jq s) (ll s rtl))]):=by
 have c1:=gD s
 have c2:=jY s rtl
 have c3:=me
 refine ae (aK f128) aD func128 fun g F hg hF=> ?_
 cbv
 repeat'(first|(refine br hg c1 rfl (fun R0 hR0=> ?_);cases R0<;>cbv)|(refine aZ hg c1 rfl (fun R0 hR0=> ?_);cases R0<;>cbv)|(refine br hg c2 rfl (fun R0 hR0=> ?_);cases R0<;>cbv)|(refine aZ hg c2 rfl (fun R0 hR0=> ?_);cases R0<;>cbv)|((first|refine Cl hg (c3 _ _) rfl (fun R0 R1 hR0 hR1=> ?_)|refine yd hg (c3 _ _) rfl (fun R0 R1 hR0 hR1=> ?_));cbv)|(split<;>rename_i hh<;>(try rw [hh])<;>(try simp only [dp hg]at hh)<;>cbv))
 all_goals exact uz hF (by subst_vars;simp_all)
theorem l9(s k:ar):PC0 112 [.agg (lc (ar.c s)),.agg (lc (ar.c k))] (.i (yZ s k)):=by
 have c1:=gy s
 refine ae (aK f112) aD func112 fun g F hg hF=> ?_
 cbv
 repeat'(first|(refine br hg c1 rfl (fun R0 hR0=> ?_);cases R0<;>cbv)|(refine aZ hg c1 rfl (fun R0 hR0=> ?_);cases R0<;>cbv)|(split<;>rename_i hh<;>(try rw [hh])<;>(try simp only [dp hg]at hh)<;>cbv))
 all_goals exact ba hF (by simp only [yZ];grind)
theorem mg(s k:ar):PC0 131 [.agg (lc (ar.c s)),.agg (lc (ar.c k))] (.i (yZ s k)):=by
 have c1:=gD s
 refine ae (aK f131) aD func131 fun g F hg hF=> ?_
 cbv
 repeat'(first|(refine br hg c1 rfl (fun R0 hR0=> ?_);cases R0<;>cbv)|(refine aZ hg c1 rfl (fun R0 hR0=> ?_);cases R0<;>cbv)|(split<;>rename_i hh<;>(try rw [hh])<;>(try simp only [dp hg]at hh)<;>cbv))
 all_goals exact ba hF (by simp only [yZ];grind)
theorem kv(i a s:Int)(b:Bool):PC0 320 [ai i,ai a,ai s,abl b] (.i (CT i a s b)):=by
 cases b<;>(refine ae (aK f320) aD func320 fun g F hg hF=> ?_;cbv)
 all_goals exact ba hF (by(try simp only [dd hg]);rfl)
theorem ld(i a s:Int)(b:Bool):PC0 270 [ai i,ai a,ai s,abl b] (.i (CT i a s b)):=by
 cases b<;>(refine ae (aK f270) aD func270 fun g F hg hF=> ?_;cbv)
 all_goals exact ba hF (by(try simp only [dd hg]);rfl)
theorem gz(s:ar)(w:Bool):PC0 169 [.agg (lc (ar.c s)),abl w] (.i (fP s w)):=by
 cases w<;>(refine ae (aK f169) aD func169 fun g F hg hF=> ?_;cbv;repeat'(first|((first|refine bq hg (aO _) rfl (fun R0 hR0=> ?_)|refine aX hg (aO _) rfl (fun R0 hR0=> ?_));cbv)|(split<;>rename_i hh<;>(try rw [hh])<;>(try simp only [dp hg]at hh)<;>cbv)))
 all_goals exact ba hF (by subst_vars;rfl)
theorem gF(s:ar)(w:Bool):PC0 174 [.agg (lc (ar.c s)),abl w] (.i (fP s w)):=by
 cases w<;>(refine ae (aK f174) aD func174 fun g F hg hF=> ?_;cbv;repeat'(first|((first|refine bq hg (bf _) rfl (fun R0 hR0=> ?_)|refine aX hg (bf _) rfl (fun R0 hR0=> ?_));cbv)|(split<;>rename_i hh<;>(try rw [hh])<;>(try simp only [dp hg]at hh)<;>cbv)))
 all_goals exact ba hF (by subst_vars;rfl)
theorem kB(s:bd)(sd:Int)(rtl:Bool):PC0 198 [.agg (lc (bd.c s)),ai sd,abl rtl] (.t (abl (uS s sd rtl))):=by
 have c1:=mU s sd rtl
 refine ae (aK f198) aD func198 fun g F hg hF=> ?_
 cbv
 repeat'(first|((first|refine r9 hg c1 rfl (fun R0 R1 hR0 hR1=> ?_)|refine mh hg c1 rfl (fun R0 R1 hR0 hR1=> ?_));cbv)|(split<;>rename_i hh<;>(try rw [hh])<;>(try simp only [dp hg]at hh)<;>cbv))
 all_goals exact bj hF (by(try simp only [bv hg]);subst_vars;simp [uS];try exact(zqn _ _))
theorem dF(s:bd)(sd:Int)(rtl:Bool):PC0 130 [.agg (lc (bd.c s)),ai sd,abl rtl] (.t (abl (uS s sd rtl))):=by
 have c1:=nB s sd rtl
 refine ae (aK f130) aD func130 fun g F hg hF=> ?_
 cbv
 repeat'(first|((first|refine r9 hg c1 rfl (fun R0 R1 hR0 hR1=> ?_)|refine mh hg c1 rfl (fun R0 R1 hR0 hR1=> ?_));cbv)|(split<;>rename_i hh<;>(try rw [hh])<;>(try simp only [dp hg]at hh)<;>cbv))
 all_goals exact bj hF (by(try simp only [bv hg]);subst_vars;simp [uS];try exact(zqn _ _))
theorem dJ(m n k:Int):PC0 249 [.agg [.J m,.J n],ai k] (.i (tak ⟨m,n⟩ k)):=by
 refine ae (aK f249) aD func249 fun g F hg hF=> ?_
 cbv
 repeat'(first|((first|refine bq hg (aO _) rfl (fun R0 hR0=> ?_)|refine aX hg (aO _) rfl (fun R0 hR0=> ?_));cbv)|(split<;>rename_i hh<;>(try rw [hh])<;>(try simp only [dp hg]at hh)<;>cbv))
 all_goals exact ba hF (by simp only [tak];subst_vars;grind)
theorem eI(m n k:Int):PC0 176 [.agg [.J m,.J n],ai k] (.i (tak ⟨m,n⟩ k)):=by
 refine ae (aK f176) aD func176 fun g F hg hF=> ?_
 cbv
 repeat'(first|((first|refine bq hg (bf _) rfl (fun R0 hR0=> ?_)|refine aX hg (bf _) rfl (fun R0 hR0=> ?_));cbv)|(split<;>rename_i hh<;>(try rw [hh])<;>(try simp only [dp hg]at hh)<;>cbv))
 all_goals exact ba hF (by simp only [tak];subst_vars;grind)
theorem gZ(m n:Int):PC0 170 [.agg [.J m,.J n]] (.i (gW ⟨m,n⟩)):=by
 refine ae (aK f170) aD func170 fun g F hg hF=> ?_
 cbv
 repeat'(first|(split<;>rename_i hh<;>(try rw [hh])<;>(try simp only [dp hg]at hh)<;>cbv))
 all_goals exact ba hF (by simp only [gW];grind)
theorem jB(m n:Int):PC0 175 [.agg [.J m,.J n]] (.i (gW ⟨m,n⟩)):=by
 refine ae (aK f175) aD func175 fun g F hg hF=> ?_
 cbv
 repeat'(first|(split<;>rename_i hh<;>(try rw [hh])<;>(try simp only [dp hg]at hh)<;>cbv))
 all_goals exact ba hF (by simp only [gW];grind)
theorem ky(m n:Int):PC0 115 [.agg [.J m,.J n]] (.t (agP (BG ⟨m,n⟩))):=by
 refine ae (aK f115) aD func115 fun g F hg hF=> ?_
 cbv
 repeat'(first|(split<;>rename_i hh<;>(try rw [hh])<;>(try simp only [dp hg]at hh)<;>cbv))
 all_goals exact mC hF (by simp only [BG];grind)
theorem li(m n:Int):PC0 132 [.agg [.J m,.J n]] (.t (agP (BG ⟨m,n⟩))):=by
 refine ae (aK f132) aD func132 fun g F hg hF=> ?_
 cbv
 repeat'(first|(split<;>rename_i hh<;>(try rw [hh])<;>(try simp only [dp hg]at hh)<;>cbv))
 all_goals exact mC hF (by simp only [BG];grind)
theorem de(m n:Int):PC0 108 [.agg [.J m,.J n]] (.i (knS ⟨m,n⟩)):=by
 refine ae (aK f108) aD func108 fun g F hg hF=> ?_
 cbv
 repeat'(first|(split<;>rename_i hh<;>(try rw [hh])<;>(try simp only [dp hg]at hh)<;>cbv))
 all_goals exact ba hF (by simp only [knS];grind)
theorem ef(m n:Int):PC0 124 [.agg [.J m,.J n]] (.i (knS ⟨m,n⟩)):=by
 refine ae (aK f124) aD func124 fun g F hg hF=> ?_
 cbv
 repeat'(first|(split<;>rename_i hh<;>(try rw [hh])<;>(try simp only [dp hg]at hh)<;>cbv))
 all_goals exact ba hF (by simp only [knS];grind)
theorem l7(m n:Int):PC0 106 [.agg [.J m,.J n]] (.t (abl (A9 ⟨m,n⟩))):=by
 refine ae (aK f106) aD func106 fun g F hg hF=> ?_
 cbv
 repeat'(first|(refine br hg (bm _ _ _) rfl (fun R0 hR0=> ?_);cases R0<;>cbv)|(refine aZ hg (bm _ _ _) rfl (fun R0 hR0=> ?_);cases R0<;>cbv)|(split<;>rename_i hh<;>(try rw [hh])<;>(try simp only [dp hg]at hh)<;>cbv))
 all_goals exact bj hF (by(try simp only [bv hg,zqn]at *);clear hF hg;simp_all [A9,rng];try grind)
theorem mf(m n:Int):PC0 120 [.agg [.J m,.J n]] (.t (abl (A9 ⟨m,n⟩))):=by
 refine ae (aK f120) aD func120 fun g F hg hF=> ?_
 cbv
 repeat'(first|(refine br hg (bS _ _ _) rfl (fun R0 hR0=> ?_);cases R0<;>cbv)|(refine aZ hg (bS _ _ _) rfl (fun R0 hR0=> ?_);cases R0<;>cbv)|(split<;>rename_i hh<;>(try rw [hh])<;>(try simp only [dp hg]at hh)<;>cbv))
 all_goals exact bj hF (by(try simp only [bv hg,zqn]at *);clear hF hg;simp_all [A9,rng];try grind)
theorem nW(c:Int):PC0 353 [ai c] (.i (uP c)):=by
 refine ae (aK f353) aD func353 fun g F hg hF=> ?_
 cbv
 repeat'(first|(split<;>rename_i hh<;>(try rw [hh])<;>(try simp only [dp hg]at hh)<;>cbv))
 all_goals exact ba hF (by simp only [uP];grind)
theorem o6(c:Int):PC0 328 [ai c] (.i (uP c)):=by
 refine ae (aK f328) aD func328 fun g F hg hF=> ?_
 cbv
 repeat'(first|(split<;>rename_i hh<;>(try rw [hh])<;>(try simp only [dp hg]at hh)<;>cbv))
 all_goals exact ba hF (by simp only [uP];grind)
theorem mR(x:av):PC0 357 [.agg (lc (av.c x))] (.t (abl (tf x))):=by
 refine ae (aK f357) aD func357 fun g F hg hF=> ?_
 cbv
 repeat'(first|(refine br hg (bm _ _ _) rfl (fun R0 hR0=> ?_);cases R0<;>cbv)|(refine aZ hg (bm _ _ _) rfl (fun R0 hR0=> ?_);cases R0<;>cbv)|(split<;>rename_i hh<;>(try rw [hh])<;>(try simp only [dp hg]at hh)<;>cbv))
 all_goals exact bj hF (by(try simp only [bv hg,fc hg,zqn]);clear hF hg;simp_all [tf])
theorem nA(x:av):PC0 333 [.agg (lc (av.c x))] (.t (abl (tf x))):=by
 refine ae (aK f333) aD func333 fun g F hg hF=> ?_
 cbv
 repeat'(first|(refine br hg (bS _ _ _) rfl (fun R0 hR0=> ?_);cases R0<;>cbv)|(refine aZ hg (bS _ _ _) rfl (fun R0 hR0=> ?_);cases R0<;>cbv)|(split<;>rename_i hh<;>(try rw [hh])<;>(try simp only [dp hg]at hh)<;>cbv))
 all_goals exact bj hF (by(try simp only [bv hg,fc hg,zqn]);clear hF hg;simp_all [tf])
theorem iI(x:av):PC0 202 [.agg (lc (av.c x))] (.t (abl (x.autoBefore||x.autoBehind))):=by
 obtain⟨s,b,c,p,q,a,e⟩:=x
 cases p<;>cases q<;>(refine ae (aK f202) aD func202 fun g F hg hF=> ?_;cbv)
 all_goals exact bj hF rfl
theorem nH(x:av):PC0 332 [.agg (lc (av.c x))] (.t (abl (onB x))):=by
 obtain⟨s,b,c,p,q,a,e⟩:=x
 cases p<;>cases q<;>(refine ae (aK f332) aD func332 fun g F hg hF=> ?_;cbv;repeat'(first|(split<;>rename_i hh<;>(try rw [hh])<;>(try simp only [dp hg]at hh)<;>cbv)))
 all_goals exact bj hF (by(try simp only [bv hg,fc hg,zqn]);clear hF hg;simp_all [onB,xW])
theorem vM(x:av):PC0 266 [.agg (lc (av.c x))] (.t (abl (xW x))):=by
 obtain⟨s,b,c,p,q,a,e⟩:=x
 cases p<;>cases q<;>(refine ae (aK f266) aD func266 fun g F hg hF=> ?_;cbv;repeat'(first|(split<;>rename_i hh<;>(try rw [hh])<;>(try simp only [dp hg]at hh)<;>cbv)))
 all_goals exact bj hF (by(try simp only [bv hg,fc hg,zqn]);clear hF hg;simp_all [onB,xW])
theorem mY(x:av):PC0 356 [.agg (lc (av.c x))] (.t (abl (onB x))):=by
 have c1:=iI x
 obtain⟨s,b,c,p,q,a,e⟩:=x
 cases p<;>cases q<;>(refine ae (aK f356) aD func356 fun g F hg hF=> ?_;cbv;repeat'(first|(refine br hg c1 rfl (fun R0 hR0=> ?_);cases R0<;>cbv)|(refine aZ hg c1 rfl (fun R0 hR0=> ?_);cases R0<;>cbv)|(split<;>rename_i hh<;>(try rw [hh])<;>(try simp only [dp hg]at hh)<;>cbv)))
 all_goals exact bj hF (by(try simp only [bv hg,fc hg,zqn]);clear hF hg c1;simp_all [onB,xW])
theorem oC(x:av):PC0 113 [.agg (lc (av.c x))] (.t (abl (xW x))):=by
 have c1:=iI x
 obtain⟨s,b,c,p,q,a,e⟩:=x
 cases p<;>cases q<;>(refine ae (aK f113) aD func113 fun g F hg hF=> ?_;cbv;repeat'(first|(refine br hg c1 rfl (fun R0 hR0=> ?_);cases R0<;>cbv)|(refine aZ hg c1 rfl (fun R0 hR0=> ?_);cases R0<;>cbv)|(split<;>rename_i hh<;>(try rw [hh])<;>(try simp only [dp hg]at hh)<;>cbv)))
 all_goals exact bj hF (by(try simp only [bv hg,fc hg,zqn]);clear hF hg c1;simp_all [onB,xW])
theorem l5(a b:Int):PC0 184 [ai a,ai b] (.i (if b<a then b else a)):=by
 refine ae (aK f184) aD func184 fun g F hg hF=> ?_
 cbv
 repeat'(first|(split<;>rename_i hh<;>(try rw [hh])<;>(try simp only [dp hg]at hh)<;>cbv))
 all_goals exact ba hF (by grind)
theorem iE(x:av):PC0 114 [.agg (lc (av.c x))] (.i (wrap64 (x.before+x.behind))):=by
 refine ae (aK f114) aD func114 fun g F hg hF=> ?_
 cbv
 all_goals exact ba hF (by rw [aM hg])
theorem mX(x:av)(cross base:Int):PC0 321 [.agg (lc (av.c x)),ai cross,ai base] (.i (DN x cross base)):=by
 have c1:=iI x
 have c2:=mR x
 obtain⟨s,b,c,p,q,a,e⟩:=x
 cases p<;>cases q<;>(refine ae (aK f321) aD func321 fun g F hg hF=> ?_;cbv;repeat'(first|(refine br hg c1 rfl (fun R0 hR0=> ?_);cases R0<;>cbv)|(refine aZ hg c1 rfl (fun R0 hR0=> ?_);cases R0<;>cbv)|(refine br hg c2 rfl (fun R0 hR0=> ?_);cases R0<;>cbv)|(refine aZ hg c2 rfl (fun R0 hR0=> ?_);cases R0<;>cbv)|((first|refine bq hg (bJ _ _) rfl (fun R0 hR0=> ?_)|refine aX hg (bJ _ _) rfl (fun R0 hR0=> ?_));cbv)|(split<;>rename_i hh<;>(try rw [hh])<;>(try simp only [dp hg]at hh)<;>cbv)))
 all_goals exact ba hF (by(try simp only [dd hg,aM hg]at *);(try clear c1);clear c2 hF hg;simp only [DN];grind)
theorem nF(x:av)(cross base:Int):PC0 272 [.agg (lc (av.c x)),ai cross,ai base] (.i (DN x cross base)):=by
 have c2:=nA x
 obtain⟨s,b,c,p,q,a,e⟩:=x
 cases p<;>cases q<;>(refine ae (aK f272) aD func272 fun g F hg hF=> ?_;cbv;repeat'(first|(refine br hg c2 rfl (fun R0 hR0=> ?_);cases R0<;>cbv)|(refine aZ hg c2 rfl (fun R0 hR0=> ?_);cases R0<;>cbv)|((first|refine bq hg (bK _ _) rfl (fun R0 hR0=> ?_)|refine aX hg (bK _ _) rfl (fun R0 hR0=> ?_));cbv)|(split<;>rename_i hh<;>(try rw [hh])<;>(try simp only [dp hg]at hh)<;>cbv)))
 all_goals exact ba hF (by(try simp only [dd hg,aM hg]at *);(try clear c1);clear c2 hF hg;simp only [DN];grind)
end Go.Proofs.YtdnnffbbhijmkaaGreat
