/- Insets. -/
import Derived.Test.YtckchgoblpgpbaaGreatJ5as
set_option linter.unusedVariables false
set_option linter.unusedSimpArgs false
set_option maxHeartbeats 8000000
namespace Go.Proofs.YtckchgoblpgpbaaGreat
open Go.ChangeShapes Go.WideShapes Go.ChangeAt Go.RowKit Am Go.Proofs.Tryz
set_option maxRecDepth 100000
abbrev agV(v:dm):AT:= .agg [.J v.kind,.J v.n]
abbrev agP(v:aI):AT:= .agg [.J v.mode,.J v.n]
abbrev agE(e:bS):AT:= .agg [.J e.left,.J e.top,.J e.right,.J e.bottom]
theorem gW(s:bg)(sd:Int)(rtl:Bool):PC0 156 [.agg (lc (bg.c s)),ai sd,abl rtl] (.t (agV (nh s sd rtl))):=by
 obtain⟨⟨a0,a1⟩,⟨a2,a3⟩,⟨a4,a5⟩,⟨a6,a7⟩,⟨a8,a9⟩,⟨ha,hb⟩⟩:=s
 cases rtl<;>(refine ae (aJ f156) ay func156 fun g F hg hF=> ?_;cbv;repeat'(first|(split<;>rename_i hh<;>(try rw [hh])<;>(try simp only [da hg]at hh)<;>cbv)))
 all_goals exact l7 hF (by simp only [nh];grind)
theorem dF(a b:Int):PC0 195 [ai a,ai b] (.i (adE a b)):=by
 refine ae (aJ f195) ay func195 fun g F hg hF=> ?_
 cbv
 repeat'(first|(refine ba hg (aK _) rfl (fun R0 ha=> ?_);cbv)|(split<;>rename_i hh<;>(try rw [hh])<;>(try simp only [da hg]at hh)<;>cbv))
 all_goals exact aV hF (by(try simp only [aN hg]at *);subst_vars;rfl)
theorem rH(a b:bS):PC0 111 [agE a,agE b] (.t (agE (Hc a b))):=by
 obtain⟨a0,a1,a2,a3⟩:=a
 obtain⟨b0,b1,b2,b3⟩:=b
 refine ae (aJ f111) ay func111 fun g F hg hF=> ?_
 cbv
 repeat'(first|(refine aB hg (aG _) rfl (fun R0 ha=> ?_);cbv)|(split<;>rename_i hh<;>(try rw [hh])<;>(try simp only [da hg]at hh)<;>cbv))
 all_goals exact CA hF (by(try simp only [aN hg]at *);subst_vars;exact⟨rfl,rfl,rfl,rfl⟩)
theorem sk(a b:bS):PC0 132 [agE a,agE b] (.t (agE (Hc a b))):=by
 obtain⟨a0,a1,a2,a3⟩:=a
 obtain⟨b0,b1,b2,b3⟩:=b
 refine ae (aJ f132) ay func132 fun g F hg hF=> ?_
 cbv
 repeat'(first|(refine aB hg (dF _ _) rfl (fun R0 ha=> ?_);cbv)|(split<;>rename_i hh<;>(try rw [hh])<;>(try simp only [da hg]at hh)<;>cbv))
 all_goals exact CA hF (by subst_vars;exact⟨rfl,rfl,rfl,rfl⟩)
theorem fi(l t r b:Int):PC0 108 [agE ⟨l,t,r,b⟩] (.i (adE l r)):=by
 refine ae (aJ f108) ay func108 fun g F hg hF=> ?_
 cbv
 repeat'(first|(refine aB hg (aG _) rfl (fun R0 ha=> ?_);cbv)|(split<;>rename_i hh<;>(try rw [hh])<;>(try simp only [da hg]at hh)<;>cbv))
 all_goals exact aV hF (by(try simp only [aN hg]at *);subst_vars;rfl)
theorem fj(l t r b:Int):PC0 109 [agE ⟨l,t,r,b⟩] (.i (adE t b)):=by
 refine ae (aJ f109) ay func109 fun g F hg hF=> ?_
 cbv
 repeat'(first|(refine aB hg (aG _) rfl (fun R0 ha=> ?_);cbv)|(split<;>rename_i hh<;>(try rw [hh])<;>(try simp only [da hg]at hh)<;>cbv))
 all_goals exact aV hF (by(try simp only [aN hg]at *);subst_vars;rfl)
theorem ec(l t r b:Int):PC0 164 [agE ⟨l,t,r,b⟩] (.i (adE l r)):=by
 refine ae (aJ f164) ay func164 fun g F hg hF=> ?_
 cbv
 repeat'(first|(refine ba hg (dF _ _) rfl (fun R0 ha=> ?_);cbv)|(split<;>rename_i hh<;>(try rw [hh])<;>(try simp only [da hg]at hh)<;>cbv))
 all_goals exact aV hF (by subst_vars;rfl)
theorem ei(l t r b:Int):PC0 165 [agE ⟨l,t,r,b⟩] (.i (adE t b)):=by
 refine ae (aJ f165) ay func165 fun g F hg hF=> ?_
 cbv
 repeat'(first|(refine ba hg (dF _ _) rfl (fun R0 ha=> ?_);cbv)|(split<;>rename_i hh<;>(try rw [hh])<;>(try simp only [da hg]at hh)<;>cbv))
 all_goals exact aV hF (by subst_vars;rfl)
theorem fo(s:aj):PC0 77 [.agg (lc (aj.c s))] (.t (agE (lw s))):=by
 obtain⟨a0,a1,a2,a3,a4,a5,a6,a7,a8,a9,hj,⟨hk,hl⟩,⟨hm,hn⟩,⟨ho,hp⟩,⟨hq,hr⟩,⟨hs,ht⟩,⟨hu,hv⟩,⟨hw,hx⟩,hy,⟨⟨hz,hA⟩,⟨hB,hC⟩,⟨hD,hE⟩,⟨hG,hH⟩,⟨hI,hJ⟩,⟨hK,hL⟩⟩,⟨⟨hM,hN⟩,⟨hO,hP⟩,⟨hQ,hR⟩,⟨hS,hT⟩,⟨hU,hV⟩,⟨hW,hX⟩⟩,⟨ha,hb,hc,hd⟩,⟨he,hf,hh,hi⟩,hY,hZ⟩:=s
 refine ae (aJ f77) ay func77 fun g F hg hF=> ?_
 cbv
 refine CP hg (rH ⟨ha,hb,hc,hd⟩ ⟨he,hf,hh,hi⟩) rfl (fun R0 R1 R2 R3 h0 h1 h2 h3=> ?_)
 cbv
 all_goals exact CA hF (by subst_vars;exact⟨rfl,rfl,rfl,rfl⟩)
theorem eU(s:aj):PC0 85 [.agg (lc (aj.c s))] (.t (agE (lw s))):=by
 obtain⟨a0,a1,a2,a3,a4,a5,a6,a7,a8,a9,hj,⟨hk,hl⟩,⟨hm,hn⟩,⟨ho,hp⟩,⟨hq,hr⟩,⟨hs,ht⟩,⟨hu,hv⟩,⟨hw,hx⟩,hy,⟨⟨hz,hA⟩,⟨hB,hC⟩,⟨hD,hE⟩,⟨hG,hH⟩,⟨hI,hJ⟩,⟨hK,hL⟩⟩,⟨⟨hM,hN⟩,⟨hO,hP⟩,⟨hQ,hR⟩,⟨hS,hT⟩,⟨hU,hV⟩,⟨hW,hX⟩⟩,⟨ha,hb,hc,hd⟩,⟨he,hf,hh,hi⟩,hY,hZ⟩:=s
 refine ae (aJ f85) ay func85 fun g F hg hF=> ?_
 cbv
 refine CP hg (sk ⟨ha,hb,hc,hd⟩ ⟨he,hf,hh,hi⟩) rfl (fun R0 R1 R2 R3 h0 h1 h2 h3=> ?_)
 cbv
 all_goals exact CA hF (by subst_vars;exact⟨rfl,rfl,rfl,rfl⟩)
theorem gL(s:aj)(w:Bool):PC0 155 [.agg (lc (aj.c s)),abl w] (.i (sY s w)):=by
 cases w<;>(refine ae (aJ f155) ay func155 fun g F hg hF=> ?_;cbv;repeat'(first|((first|refine CP hg (fo s) rfl (fun R0 R1 R2 R3 ha hb hc hd=> ?_)|refine ba hg (fi _ _ _ _) rfl (fun R0 ha=> ?_)|refine ba hg (fj _ _ _ _) rfl (fun R0 ha=> ?_));cbv)|(split<;>rename_i hh<;>(try rw [hh])<;>(try simp only [da hg]at hh)<;>cbv)))
 all_goals exact aV hF (by subst_vars;rfl)
theorem kg(s:aj)(w:Bool):PC0 193 [.agg (lc (aj.c s)),abl w] (.i (sY s w)):=by
 cases w<;>(refine ae (aJ f193) ay func193 fun g F hg hF=> ?_;cbv;repeat'(first|((first|refine CP hg (eU s) rfl (fun R0 R1 R2 R3 ha hb hc hd=> ?_)|refine ba hg (ec _ _ _ _) rfl (fun R0 ha=> ?_)|refine ba hg (ei _ _ _ _) rfl (fun R0 ha=> ?_));cbv)|(split<;>rename_i hh<;>(try rw [hh])<;>(try simp only [da hg]at hh)<;>cbv)))
 all_goals exact aV hF (by subst_vars;rfl)
theorem eD(w:Bool)(a b c d:Int):PC0 154 [abl w,.agg [.J a,.J b],.agg [.J c,.J d]] (.t (agV (if w then⟨a,b⟩else⟨c,d⟩))):=by
 cases w<;>(refine ae (aJ f154) ay func154 fun g F hg hF=> ?_;cbv;repeat'(first|(split<;>rename_i hh<;>(try rw [hh])<;>(try simp only [da hg]at hh)<;>cbv)))
 all_goals exact l7 hF (by exact⟨rfl,rfl⟩)
theorem fX(w:Bool)(a b c d:Int):PC0 167 [abl w,.agg [.J a,.J b],.agg [.J c,.J d]] (.t (agV (if w then⟨a,b⟩else⟨c,d⟩))):=by
 cases w<;>(refine ae (aJ f167) ay func167 fun g F hg hF=> ?_;cbv;repeat'(first|(split<;>rename_i hh<;>(try rw [hh])<;>(try simp only [da hg]at hh)<;>cbv)))
 all_goals exact l7 hF (by exact⟨rfl,rfl⟩)
theorem iY(s:aj)(w:Bool)(b:Int):PC0 113 [.agg (lc (aj.c s)),abl w,ai b] (.i (Ar s w b)):=by
 obtain⟨a0,a1,a2,a3,a4,a5,a6,a7,a8,a9,hc,⟨hd,he⟩,⟨hf,hi⟩,⟨hj,hk⟩,⟨hl,hm⟩,⟨hn,ho⟩,⟨hp,hq⟩,⟨hr,hs⟩,ht,⟨⟨hu,hv⟩,⟨hw,hx⟩,⟨hy,hz⟩,⟨hA,hB⟩,⟨hC,hD⟩,⟨hE,hG⟩⟩,⟨⟨hH,hI⟩,⟨hJ,hK⟩,⟨hL,hM⟩,⟨hN,hO⟩,⟨hP,hQ⟩,⟨hR,hS⟩⟩,⟨hT,hU,hV,hW⟩,⟨hX,hY,hZ,h0⟩,h1,h2⟩:=s
 have hb:=gL (⟨a0,a1,a2,a3,a4,a5,a6,a7,a8,a9,hc,⟨hd,he⟩,⟨hf,hi⟩,⟨hj,hk⟩,⟨hl,hm⟩,⟨hn,ho⟩,⟨hp,hq⟩,⟨hr,hs⟩,ht,⟨⟨hu,hv⟩,⟨hw,hx⟩,⟨hy,hz⟩,⟨hA,hB⟩,⟨hC,hD⟩,⟨hE,hG⟩⟩,⟨⟨hH,hI⟩,⟨hJ,hK⟩,⟨hL,hM⟩,⟨hN,hO⟩,⟨hP,hQ⟩,⟨hR,hS⟩⟩,⟨hT,hU,hV,hW⟩,⟨hX,hY,hZ,h0⟩,h1,h2⟩:aj)
 cases w<;>(refine ae (aJ f113) ay func113 fun g F hg hF=> ?_;cbv;repeat'(first|((first|refine l8 hg (eD _ _ _ _ _) rfl (fun R0 R1 ha h3=> ?_)|refine ba hg (ea _ _ _) rfl (fun R0 ha=> ?_)|refine ba hg (jC _ _) rfl (fun R0 ha=> ?_)|refine ba hg (hb _) rfl (fun R0 ha=> ?_));cbv)|(split<;>rename_i hh<;>(try rw [hh])<;>(try simp only [da hg]at hh)<;>cbv)))
 all_goals exact aV hF (by simp only [Ar];subst_vars;first|rfl|(split<;>first|rfl|contradiction|omega)|grind)
theorem jb(s:aj)(w:Bool)(b:Int):PC0 130 [.agg (lc (aj.c s)),abl w,ai b] (.i (Ar s w b)):=by
 cases w<;>(refine ae (aJ f130) ay func130 fun g F hg hF=> ?_;cbv;repeat'(first|((first|refine gV hg (fX _ _ _ _ _) rfl (fun R0 R1 ha hb=> ?_)|refine aB hg (ef _ _ _) rfl (fun R0 ha=> ?_)|refine aB hg (nI _ _) rfl (fun R0 ha=> ?_)|refine aB hg (kg s _) rfl (fun R0 ha=> ?_));cbv)|(split<;>rename_i hh<;>(try rw [hh])<;>(try simp only [da hg]at hh)<;>cbv)))
 all_goals exact aV hF (by simp only [Ar,Du hg];subst_vars;first|rfl|(split<;>first|rfl|contradiction|omega)|grind)
theorem jD(s:aj)(w:Bool)(b:Int):PC0 114 [.agg (lc (aj.c s)),abl w,ai b] (.i (BA s w b)):=by
 cases w<;>(refine ae (aJ f114) ay func114 fun g F hg hF=> ?_;cbv;repeat'(first|((first|refine l8 hg (eD _ _ _ _ _) rfl (fun R0 R1 ha hb=> ?_)|refine ba hg (ea _ _ _) rfl (fun R0 ha=> ?_));cbv)|(split<;>rename_i hh<;>(try rw [hh])<;>(try simp only [da hg]at hh)<;>cbv)))
 all_goals exact aV hF (by subst_vars;rfl)
theorem jO(s:aj)(w:Bool)(b:Int):PC0 131 [.agg (lc (aj.c s)),abl w,ai b] (.i (BA s w b)):=by
 cases w<;>(refine ae (aJ f131) ay func131 fun g F hg hF=> ?_;cbv;repeat'(first|((first|refine l8 hg (fX _ _ _ _ _) rfl (fun R0 R1 ha hb=> ?_)|refine ba hg (ef _ _ _) rfl (fun R0 ha=> ?_));cbv)|(split<;>rename_i hh<;>(try rw [hh])<;>(try simp only [da hg]at hh)<;>cbv)))
 all_goals exact aV hF (by subst_vars;rfl)
theorem eG(s:aj)(w:Bool)(b:Int):PC0 143 [.agg (lc (aj.c s)),abl w,ai b] (.i (ph s w b)):=by
 cases w<;>(refine ae (aJ f143) ay func143 fun g F hg hF=> ?_;cbv;repeat'(first|((first|refine l8 hg (eD _ _ _ _ _) rfl (fun R0 R1 ha hb=> ?_)|refine ba hg (ea _ _ _) rfl (fun R0 ha=> ?_));cbv)|(split<;>rename_i hh<;>(try rw [hh])<;>(try simp only [da hg]at hh)<;>cbv)))
 all_goals exact aV hF (by subst_vars;rfl)
theorem eV(s:aj)(w:Bool)(b:Int):PC0 121 [.agg (lc (aj.c s)),abl w,ai b] (.i (ph s w b)):=by
 cases w<;>(refine ae (aJ f121) ay func121 fun g F hg hF=> ?_;cbv;repeat'(first|((first|refine l8 hg (fX _ _ _ _ _) rfl (fun R0 R1 ha hb=> ?_)|refine ba hg (ef _ _ _) rfl (fun R0 ha=> ?_));cbv)|(split<;>rename_i hh<;>(try rw [hh])<;>(try simp only [da hg]at hh)<;>cbv)))
 all_goals exact aV hF (by subst_vars;rfl)
theorem cj(s:aj)(w:Bool)(b n:Int):PC0 78 [.agg (lc (aj.c s)),abl w,ai b,ai n] (.i (ly s w b n)):=by
 refine ae (aJ f78) ay func78 fun g F hg hF=> ?_
 cbv
 repeat'(first|((first|refine aB hg (iY s _ _) rfl (fun R0 ha=> ?_)|refine aB hg (jD s _ _) rfl (fun R0 ha=> ?_)|refine aB hg (jA _ _ _) rfl (fun R0 ha=> ?_)|refine aB hg (aG _) rfl (fun R0 ha=> ?_));cbv)|(split<;>rename_i hh<;>(try rw [hh])<;>(try simp only [da hg]at hh)<;>cbv))
 all_goals exact aV hF (by subst_vars;rfl)
theorem dx(s:aj)(w:Bool)(b n:Int):PC0 84 [.agg (lc (aj.c s)),abl w,ai b,ai n] (.i (ly s w b n)):=by
 refine ae (aJ f84) ay func84 fun g F hg hF=> ?_
 cbv
 repeat'(first|((first|refine aB hg (jb s _ _) rfl (fun R0 ha=> ?_)|refine aB hg (jO s _ _) rfl (fun R0 ha=> ?_)|refine aB hg (jN _ _ _) rfl (fun R0 ha=> ?_)|refine aB hg (aK _) rfl (fun R0 ha=> ?_));cbv)|(split<;>rename_i hh<;>(try rw [hh])<;>(try simp only [da hg]at hh)<;>cbv))
 all_goals exact aV hF (by subst_vars;rfl)
variable {F:Nat->Prop}
theorem Bp{w:World}:∀(j:Nat)(x:AT),([]:List AT)[j]? =some x->∃v,([]:List Value)[j]? =some v/\RT F w [] [] x v:=fun j x h=>by simp at h
theorem ij{w:World}{x:AT}{v:Value}{xs:List AT}{vs:List Value}(h1:RT F w [] [] x v)(h2:∀(j:Nat)(x:AT),xs[j]? =some x->∃v,vs[j]? =some v/\RT F w [] [] x v):
  ∀(j:Nat)(y:AT),(x::xs)[j]? =some y->∃u,(v::vs)[j]? =some u/\RT F w [] [] y u:=fun j y h=>by
 cases j with
 |zero=>simp only [zqw,zqy]at h;subst h;exact⟨v,rfl,h1⟩
 |succ j=>exact h2 j y (by simpa using h)
def tU(s:aj)(w:Int):Int:=cl (wrap64 (cl w-adE s.border.left s.border.right))
def vK(s:aj)(h:Int):Int:=cl (wrap64 (cl h-adE s.border.top s.border.bottom))
theorem m6(s:aj)(w h:Int):PC0 75 [.agg (lc (aj.c s)),ai w,ai h] (.tup [ai (tU s w),ai (vK s h)]):=by
 refine ae (aJ f75) ay func75 fun g F hg hF=> ?_
 cbv
 repeat'(first|((first|refine aB hg (aG _) rfl (fun R0 ha=> ?_)|refine aB hg (fi _ _ _ _) rfl (fun R0 ha=> ?_)|refine aB hg (fj _ _ _ _) rfl (fun R0 ha=> ?_));cbv)|(split<;>rename_i hh<;>(try rw [hh])<;>(try simp only [da hg]at hh)<;>cbv))
 all_goals exact qQ hF (by(try simp only [bZ hg]at *);subst_vars;exact⟨rfl,rfl⟩)
theorem uC(s:aj)(w h:Int):PC0 120 [.agg (lc (aj.c s)),ai w,ai h] (.tup [ai (tU s w),ai (vK s h)]):=by
 refine ae (aJ f120) ay func120 fun g F hg hF=> ?_
 cbv
 repeat'(first|((first|refine aB hg (aK _) rfl (fun R0 ha=> ?_)|refine aB hg (ec _ _ _ _) rfl (fun R0 ha=> ?_)|refine aB hg (ei _ _ _ _) rfl (fun R0 ha=> ?_));cbv)|(split<;>rename_i hh<;>(try rw [hh])<;>(try simp only [da hg]at hh)<;>cbv))
 all_goals exact qQ hF (by(try simp only [bZ hg]at *);subst_vars;exact⟨rfl,rfl⟩)
theorem fp(n:Int):PC0 93 [ai n] (.t (.agg [.J 3,.J n])):=by
 refine ae (aJ f93) ay func93 fun g F hg hF=> ?_
 cbv
 all_goals exact l7 hF (by exact⟨rfl,rfl⟩)
end Go.Proofs.YtckchgoblpgpbaaGreat
namespace Go.Proofs.YtckchgoblpgpbaaGreat
open Go.ChangeShapes Go.WideShapes Go.ChangeAt Go.RowKit
set_option maxRecDepth 100000
def dt(s:bg)(sd:Int)(rtl:Bool):dm:=
 if sd=1 then s.top else if sd=3 then s.bottom
 else if sd=0 then(if(if rtl then s.fin else s.start).kind≠0 then(if rtl then s.fin else s.start)else s.left)
 else if sd=2 then(if(if rtl then s.start else s.fin).kind≠0 then(if rtl then s.start else s.fin)else s.right)else⟨0,0⟩
theorem uB(s:bg)(sd:Int)(rtl:Bool)(w:World):
  Calls Tryz.prog 196 #[.agg #[.int .i64 s.left.kind,.int .i64 s.left.n,.int .i64 s.top.kind,.int .i64 s.top.n,.int .i64 s.right.kind,.int .i64 s.right.n,.int .i64 s.bottom.kind,.int .i64 s.bottom.n,.int .i64 s.start.kind,.int .i64 s.start.n,.int .i64 s.fin.kind,.int .i64 s.fin.n],.int .i64 sd,.bool rtl] w fun e w'=>e= .returned (.agg #[.int .i64 (dt s sd rtl).kind,.int .i64 (dt s sd rtl).n])/\Below w.heap.size w w':=by
 by_cases h1:sd=1
 ·subst h1
  cases rtl
  ·go_enter Tryz.func196,Tryz.ntmps196
   go_wp2
   go_region
   all_goals go_wp2
   all_goals(try go_wp2)
   all_goals(refine bodyPost_ret (v:= .agg #[.int .i64 (dt s 1 false).kind,.int .i64 (dt s 1 false).n]) (by simp [results,Tryz.results196,go_sem,dt, *]) rfl ?_)
   all_goals exact⟨rfl,by repeat(first|(with_reducible exact eY _)|(with_reducible assumption)|(with_reducible refine Below.setCell ?_ (by first|omega|(simp;done)|(simp;omega)) _)|(with_reducible refine bT ?_ _)|(with_reducible refine Below.drew ?_)|(with_reducible refine bu ?_ (by with_reducible assumption))|(with_reducible refine bu ?_ (du _ _)))⟩
  ·go_enter Tryz.func196,Tryz.ntmps196
   go_wp2
   go_region
   all_goals go_wp2
   all_goals(try go_wp2)
   all_goals(refine bodyPost_ret (v:= .agg #[.int .i64 (dt s 1 true).kind,.int .i64 (dt s 1 true).n]) (by simp [results,Tryz.results196,go_sem,dt, *]) rfl ?_)
   all_goals exact⟨rfl,by repeat(first|(with_reducible exact eY _)|(with_reducible assumption)|(with_reducible refine Below.setCell ?_ (by first|omega|(simp;done)|(simp;omega)) _)|(with_reducible refine bT ?_ _)|(with_reducible refine Below.drew ?_)|(with_reducible refine bu ?_ (by with_reducible assumption))|(with_reducible refine bu ?_ (du _ _)))⟩
 by_cases h3:sd=3
 ·subst h3
  cases rtl
  ·go_enter Tryz.func196,Tryz.ntmps196
   go_wp2
   go_region
   all_goals go_wp2
   all_goals(try go_wp2)
   all_goals(refine bodyPost_ret (v:= .agg #[.int .i64 (dt s 3 false).kind,.int .i64 (dt s 3 false).n]) (by simp [results,Tryz.results196,go_sem,dt, *]) rfl ?_)
   all_goals exact⟨rfl,by repeat(first|(with_reducible exact eY _)|(with_reducible assumption)|(with_reducible refine Below.setCell ?_ (by first|omega|(simp;done)|(simp;omega)) _)|(with_reducible refine bT ?_ _)|(with_reducible refine Below.drew ?_)|(with_reducible refine bu ?_ (by with_reducible assumption))|(with_reducible refine bu ?_ (du _ _)))⟩
  ·go_enter Tryz.func196,Tryz.ntmps196
   go_wp2
   go_region
   all_goals go_wp2
   all_goals(try go_wp2)
   all_goals(refine bodyPost_ret (v:= .agg #[.int .i64 (dt s 3 true).kind,.int .i64 (dt s 3 true).n]) (by simp [results,Tryz.results196,go_sem,dt, *]) rfl ?_)
   all_goals exact⟨rfl,by repeat(first|(with_reducible exact eY _)|(with_reducible assumption)|(with_reducible refine Below.setCell ?_ (by first|omega|(simp;done)|(simp;omega)) _)|(with_reducible refine bT ?_ _)|(with_reducible refine Below.drew ?_)|(with_reducible refine bu ?_ (by with_reducible assumption))|(with_reducible refine bu ?_ (du _ _)))⟩
 by_cases h0:sd=0
 ·subst h0
  cases rtl
  ·by_cases hk:s.start.kind=0
   ·go_enter Tryz.func196,Tryz.ntmps196
    go_wp2
    go_region
    all_goals go_wp2
    all_goals(try go_wp2)
    all_goals(refine bodyPost_ret (v:= .agg #[.int .i64 (dt s 0 false).kind,.int .i64 (dt s 0 false).n]) (by simp [results,Tryz.results196,go_sem,dt, *]) rfl ?_)
    all_goals exact⟨rfl,by repeat(first|(with_reducible exact eY _)|(with_reducible assumption)|(with_reducible refine Below.setCell ?_ (by first|omega|(simp;done)|(simp;omega)) _)|(with_reducible refine bT ?_ _)|(with_reducible refine Below.drew ?_)|(with_reducible refine bu ?_ (by with_reducible assumption))|(with_reducible refine bu ?_ (du _ _)))⟩
   ·go_enter Tryz.func196,Tryz.ntmps196
    go_wp2
    go_region
    all_goals go_wp2
    all_goals(try go_wp2)
    all_goals(refine bodyPost_ret (v:= .agg #[.int .i64 (dt s 0 false).kind,.int .i64 (dt s 0 false).n]) (by simp [results,Tryz.results196,go_sem,dt, *]) rfl ?_)
    all_goals exact⟨rfl,by repeat(first|(with_reducible exact eY _)|(with_reducible assumption)|(with_reducible refine Below.setCell ?_ (by first|omega|(simp;done)|(simp;omega)) _)|(with_reducible refine bT ?_ _)|(with_reducible refine Below.drew ?_)|(with_reducible refine bu ?_ (by with_reducible assumption))|(with_reducible refine bu ?_ (du _ _)))⟩
  ·by_cases hk:s.fin.kind=0
   ·go_enter Tryz.func196,Tryz.ntmps196
    go_wp2
    go_region
    all_goals go_wp2
    all_goals(try go_wp2)
    all_goals(refine bodyPost_ret (v:= .agg #[.int .i64 (dt s 0 true).kind,.int .i64 (dt s 0 true).n]) (by simp [results,Tryz.results196,go_sem,dt, *]) rfl ?_)
    all_goals exact⟨rfl,by repeat(first|(with_reducible exact eY _)|(with_reducible assumption)|(with_reducible refine Below.setCell ?_ (by first|omega|(simp;done)|(simp;omega)) _)|(with_reducible refine bT ?_ _)|(with_reducible refine Below.drew ?_)|(with_reducible refine bu ?_ (by with_reducible assumption))|(with_reducible refine bu ?_ (du _ _)))⟩
   ·go_enter Tryz.func196,Tryz.ntmps196
    go_wp2
    go_region
    all_goals go_wp2
    all_goals(try go_wp2)
    all_goals(refine bodyPost_ret (v:= .agg #[.int .i64 (dt s 0 true).kind,.int .i64 (dt s 0 true).n]) (by simp [results,Tryz.results196,go_sem,dt, *]) rfl ?_)
    all_goals exact⟨rfl,by repeat(first|(with_reducible exact eY _)|(with_reducible assumption)|(with_reducible refine Below.setCell ?_ (by first|omega|(simp;done)|(simp;omega)) _)|(with_reducible refine bT ?_ _)|(with_reducible refine Below.drew ?_)|(with_reducible refine bu ?_ (by with_reducible assumption))|(with_reducible refine bu ?_ (du _ _)))⟩
 by_cases h2:sd=2
 ·subst h2
  cases rtl
  ·by_cases hk:s.fin.kind=0
   ·go_enter Tryz.func196,Tryz.ntmps196
    go_wp2
    go_region
    all_goals go_wp2
    all_goals(try go_wp2)
    all_goals(refine bodyPost_ret (v:= .agg #[.int .i64 (dt s 2 false).kind,.int .i64 (dt s 2 false).n]) (by simp [results,Tryz.results196,go_sem,dt, *]) rfl ?_)
    all_goals exact⟨rfl,by repeat(first|(with_reducible exact eY _)|(with_reducible assumption)|(with_reducible refine Below.setCell ?_ (by first|omega|(simp;done)|(simp;omega)) _)|(with_reducible refine bT ?_ _)|(with_reducible refine Below.drew ?_)|(with_reducible refine bu ?_ (by with_reducible assumption))|(with_reducible refine bu ?_ (du _ _)))⟩
   ·go_enter Tryz.func196,Tryz.ntmps196
    go_wp2
    go_region
    all_goals go_wp2
    all_goals(try go_wp2)
    all_goals(refine bodyPost_ret (v:= .agg #[.int .i64 (dt s 2 false).kind,.int .i64 (dt s 2 false).n]) (by simp [results,Tryz.results196,go_sem,dt, *]) rfl ?_)
    all_goals exact⟨rfl,by repeat(first|(with_reducible exact eY _)|(with_reducible assumption)|(with_reducible refine Below.setCell ?_ (by first|omega|(simp;done)|(simp;omega)) _)|(with_reducible refine bT ?_ _)|(with_reducible refine Below.drew ?_)|(with_reducible refine bu ?_ (by with_reducible assumption))|(with_reducible refine bu ?_ (du _ _)))⟩
  ·by_cases hk:s.start.kind=0
   ·go_enter Tryz.func196,Tryz.ntmps196
    go_wp2
    go_region
    all_goals go_wp2
    all_goals(try go_wp2)
    all_goals(refine bodyPost_ret (v:= .agg #[.int .i64 (dt s 2 true).kind,.int .i64 (dt s 2 true).n]) (by simp [results,Tryz.results196,go_sem,dt, *]) rfl ?_)
    all_goals exact⟨rfl,by repeat(first|(with_reducible exact eY _)|(with_reducible assumption)|(with_reducible refine Below.setCell ?_ (by first|omega|(simp;done)|(simp;omega)) _)|(with_reducible refine bT ?_ _)|(with_reducible refine Below.drew ?_)|(with_reducible refine bu ?_ (by with_reducible assumption))|(with_reducible refine bu ?_ (du _ _)))⟩
   ·go_enter Tryz.func196,Tryz.ntmps196
    go_wp2
    go_region
    all_goals go_wp2
    all_goals(try go_wp2)
    all_goals(refine bodyPost_ret (v:= .agg #[.int .i64 (dt s 2 true).kind,.int .i64 (dt s 2 true).n]) (by simp [results,Tryz.results196,go_sem,dt, *]) rfl ?_)
    all_goals exact⟨rfl,by repeat(first|(with_reducible exact eY _)|(with_reducible assumption)|(with_reducible refine Below.setCell ?_ (by first|omega|(simp;done)|(simp;omega)) _)|(with_reducible refine bT ?_ _)|(with_reducible refine Below.drew ?_)|(with_reducible refine bu ?_ (by with_reducible assumption))|(with_reducible refine bu ?_ (du _ _)))⟩
 have g1:(sd==1)=false:=by simpa using h1
 have g3:(sd==3)=false:=by simpa using h3
 have g0:(sd==0)=false:=by simpa using h0
 have g2:(sd==2)=false:=by simpa using h2
 cases rtl
 ·go_enter Tryz.func196,Tryz.ntmps196
  go_wp2
  go_region
  all_goals go_wp2
  all_goals(try go_wp2)
  all_goals(refine bodyPost_ret (v:= .agg #[.int .i64 (dt s sd false).kind,.int .i64 (dt s sd false).n]) (by simp [results,Tryz.results196,go_sem,dt, *]) rfl ?_)
  all_goals exact⟨rfl,by repeat(first|(with_reducible exact eY _)|(with_reducible assumption)|(with_reducible refine Below.setCell ?_ (by first|omega|(simp;done)|(simp;omega)) _)|(with_reducible refine bT ?_ _)|(with_reducible refine Below.drew ?_)|(with_reducible refine bu ?_ (by with_reducible assumption))|(with_reducible refine bu ?_ (du _ _)))⟩
 ·go_enter Tryz.func196,Tryz.ntmps196
  go_wp2
  go_region
  all_goals go_wp2
  all_goals(try go_wp2)
  all_goals(refine bodyPost_ret (v:= .agg #[.int .i64 (dt s sd true).kind,.int .i64 (dt s sd true).n]) (by simp [results,Tryz.results196,go_sem,dt, *]) rfl ?_)
  all_goals exact⟨rfl,by repeat(first|(with_reducible exact eY _)|(with_reducible assumption)|(with_reducible refine Below.setCell ?_ (by first|omega|(simp;done)|(simp;omega)) _)|(with_reducible refine bT ?_ _)|(with_reducible refine Below.drew ?_)|(with_reducible refine bu ?_ (by with_reducible assumption))|(with_reducible refine bu ?_ (du _ _)))⟩
end Go.Proofs.YtckchgoblpgpbaaGreat
namespace Go.Proofs.YtckchgoblpgpbaaGreat
open Go.ChangeShapes Go.WideShapes Go.ChangeAt Go.RowKit Am Go.Proofs.Tryz
set_option maxRecDepth 100000
variable {F:Nat->Prop}{w:World}
theorem yS{a:Array Value}{u:Value}(h:RT F w [] [] (.agg (lc a)) u):u= .agg a:=by
 obtain⟨vs,rfl,hl,hc⟩:=h
 have ha:vs.length=a.toList.length:=by rw [hl];simp [lc]
 have:vs=a.toList:=by
  refine List.ext_getElem? fun i=> ?_
  by_cases hi:i<a.toList.length
  ·have h1:=zqc hi
   obtain⟨u,hu,_,hr⟩:=hc i (.imm a.toList[i]) (by simp [lc,h1])
   rw [hu,h1]
   exact congrArg some hr
  ·rw [zqz (by omega),zqz (by omega)]
 rw [this]
theorem Bo:∀(j:Nat)(x:AT)(u:Value),([]:List AT)[j]? =some x->RT F w [] [] x u->([]:List Value)[j]? =some u:=fun j x u h=>by simp at h
theorem ow{x:AT}{v:Value}{xs:List AT}{vs:List Value}(h1:∀u,RT F w [] [] x u->u=v)(h2:∀(j:Nat)(x:AT)(u:Value),xs[j]? =some x->RT F w [] [] x u->vs[j]? =some u):
  ∀(j:Nat)(y:AT)(u:Value),(x::xs)[j]? =some y->RT F w [] [] y u->(v::vs)[j]? =some u:=fun j y u h hr=>by
 cases j with
 |zero=>simp only [zqw,zqy]at h;subst h;rw [h1 u hr];rfl
 |succ j=>exact h2 j y u (by simpa using h) hr
theorem ib(s:bg)(sd:Int)(rtl:Bool):PC0 196 [.agg (lc (bg.c s)),ai sd,abl rtl] (.t (agV (nh s sd rtl))):=
 tR (us:=[.agg (bg.c s),.int .i64 sd,.bool rtl]) (v:= .agg #[.int .i64 (nh s sd rtl).kind,.int .i64 (nh s sd rtl).n]) (by kernel_rfl) rfl
  (fun F w=>ow (fun u h=>yS h) (ow (fun u h=>h) (ow (fun u h=>h) Bo)))
  (fun F w=>⟨[.int .i64 (nh s sd rtl).kind,.int .i64 (nh s sd rtl).n],rfl,rfl,fun j c hj=>by
   match j,hj with
   |0,hj=>cases hj;exact⟨_,rfl,rfl,rfl⟩
   |1,hj=>cases hj;exact⟨_,rfl,rfl,rfl⟩⟩)
  (fun w=>uB s sd rtl w)
def wv(s:aj)(sd:Int)(rtl:Bool)(base:Int):Int:=if kn (nh s.inset sd rtl) base=false then 0 else sg (Dj (nh s.inset sd rtl) base)
def ww(s:aj)(sd:Int)(rtl:Bool)(base:Int):Bool:=kn (nh s.inset sd rtl) base
theorem gq(s:aj)(sd:Int)(rtl:Bool)(base:Int):PC0 115 [.agg (lc (aj.c s)),ai sd,abl rtl,ai base] (.tup [ai (wv s sd rtl base),abl (ww s sd rtl base)]):=by
 obtain⟨a0,a1,a2,a3,a4,a5,a6,a7,a8,a9,hp,⟨hq,hr⟩,⟨hs,ht⟩,⟨hu,hv⟩,⟨hw,hx⟩,⟨hy,hz⟩,⟨hA,hB⟩,⟨hC,hD⟩,hE,⟨⟨hG,hH⟩,⟨hI,hJ⟩,⟨hK,hL⟩,⟨hM,hN⟩,⟨hO,hP⟩,⟨hQ,hT⟩⟩,⟨⟨hb,hc⟩,⟨hd,he⟩,⟨hf,hi⟩,⟨hj,hk⟩,⟨hl,hm⟩,⟨hn,ho⟩⟩,⟨hU,hV,hW,hX⟩,⟨hY,hZ,h0,h1⟩,h2,h3⟩:=s
 refine ae (aJ f115) ay func115 fun g F hg hF=> ?_
 cbv
 (first|refine l8 hg (gW ⟨⟨hb,hc⟩,⟨hd,he⟩,⟨hf,hi⟩,⟨hj,hk⟩,⟨hl,hm⟩,⟨hn,ho⟩⟩ _ _) rfl (fun R S hR hS=> ?_)|refine gV hg (gW ⟨⟨hb,hc⟩,⟨hd,he⟩,⟨hf,hi⟩,⟨hj,hk⟩,⟨hl,hm⟩,⟨hn,ho⟩⟩ _ _) rfl (fun R S hR hS=> ?_))
 cbv
 repeat'(first|(refine bz hg (dT _ _ _) rfl (fun R0 ha=> ?_);cases R0<;>cbv)|((first|refine ba hg (dB _ _ _) rfl (fun R0 ha=> ?_)|refine ba hg (bD _) rfl (fun R0 ha=> ?_));cbv)|(split<;>rename_i hh<;>(try rw [hh])<;>(try simp only [da hg]at hh)<;>cbv))
 all_goals exact Cz hF (by simp only [wv,ww];subst_vars;simp_all)
theorem my(s:aj)(sd:Int)(rtl:Bool)(base:Int):PC0 133 [.agg (lc (aj.c s)),ai sd,abl rtl,ai base] (.tup [ai (wv s sd rtl base),abl (ww s sd rtl base)]):=by
 obtain⟨a0,a1,a2,a3,a4,a5,a6,a7,a8,a9,hp,⟨hq,hr⟩,⟨hs,ht⟩,⟨hu,hv⟩,⟨hw,hx⟩,⟨hy,hz⟩,⟨hA,hB⟩,⟨hC,hD⟩,hE,⟨⟨hG,hH⟩,⟨hI,hJ⟩,⟨hK,hL⟩,⟨hM,hN⟩,⟨hO,hP⟩,⟨hQ,hT⟩⟩,⟨⟨hb,hc⟩,⟨hd,he⟩,⟨hf,hi⟩,⟨hj,hk⟩,⟨hl,hm⟩,⟨hn,ho⟩⟩,⟨hU,hV,hW,hX⟩,⟨hY,hZ,h0,h1⟩,h2,h3⟩:=s
 refine ae (aJ f133) ay func133 fun g F hg hF=> ?_
 cbv
 (first|refine l8 hg (ib ⟨⟨hb,hc⟩,⟨hd,he⟩,⟨hf,hi⟩,⟨hj,hk⟩,⟨hl,hm⟩,⟨hn,ho⟩⟩ _ _) rfl (fun R S hR hS=> ?_)|refine gV hg (ib ⟨⟨hb,hc⟩,⟨hd,he⟩,⟨hf,hi⟩,⟨hj,hk⟩,⟨hl,hm⟩,⟨hn,ho⟩⟩ _ _) rfl (fun R S hR hS=> ?_))
 cbv
 repeat'(first|(refine bz hg (dY _ _ _) rfl (fun R0 ha=> ?_);cases R0<;>cbv)|((first|refine ba hg (dI _ _ _) rfl (fun R0 ha=> ?_)|refine ba hg (bN _) rfl (fun R0 ha=> ?_));cbv)|(split<;>rename_i hh<;>(try rw [hh])<;>(try simp only [da hg]at hh)<;>cbv))
 all_goals exact Cz hF (by simp only [wv,ww];subst_vars;simp_all)
end Go.Proofs.YtckchgoblpgpbaaGreat
