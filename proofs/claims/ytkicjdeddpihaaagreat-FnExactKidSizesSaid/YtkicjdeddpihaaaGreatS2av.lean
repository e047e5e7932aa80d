/- Insets. -/
import Derived.Test.YtkicjdeddpihaaaGreatS2au
set_option linter.unusedVariables false
set_option linter.unusedSimpArgs false
set_option maxHeartbeats 8000000
namespace Go.Proofs.YtkicjdeddpihaaaGreat
open Go.ChangeShapes Go.WideShapes Go.ChangeAt Go.RowKit Am Go.Proofs.Tryz
set_option maxRecDepth 100000
abbrev agV(v:dx):AT:= .agg [.J v.kind,.J v.n]
abbrev agP(v:az):AT:= .agg [.J v.mode,.J v.n]
abbrev agE(e:bV):AT:= .agg [.J e.left,.J e.top,.J e.right,.J e.bottom]
theorem nr(s:bh)(sd:Int)(rtl:Bool):PC0 205 [.agg (lc (bh.c s)),ai sd,abl rtl] (.t (agV (qL s sd rtl))):=by
 obtain⟨⟨a0,a1⟩,⟨a2,a3⟩,⟨a4,a5⟩,⟨a6,a7⟩,⟨a8,a9⟩,⟨ha,hb⟩⟩:=s
 cases rtl<;>(refine ae (aK f205) ay func205 fun g F hg hF=> ?_;cbv;repeat'(first|(split<;>rename_i hh<;>(try rw [hh])<;>(try simp only [dD hg]at hh)<;>cbv)))
 all_goals exact m8 hF (by simp only [qL];grind)
theorem dQ(a b:Int):PC0 154 [ai a,ai b] (.i (adE a b)):=by
 refine ae (aK f154) ay func154 fun g F hg hF=> ?_
 cbv
 repeat'(first|(refine bk hg (aZ _) rfl (fun R0 ha=> ?_);cbv)|(split<;>rename_i hh<;>(try rw [hh])<;>(try simp only [dD hg]at hh)<;>cbv))
 all_goals exact aU hF (by(try simp only [aJ hg]at *);subst_vars;rfl)
theorem sH(a b:bV):PC0 198 [agE a,agE b] (.t (agE (Jp a b))):=by
 obtain⟨a0,a1,a2,a3⟩:=a
 obtain⟨b0,b1,b2,b3⟩:=b
 refine ae (aK f198) ay func198 fun g F hg hF=> ?_
 cbv
 repeat'(first|(refine aV hg (aN _) rfl (fun R0 ha=> ?_);cbv)|(split<;>rename_i hh<;>(try rw [hh])<;>(try simp only [dD hg]at hh)<;>cbv))
 all_goals exact Ed hF (by(try simp only [aJ hg]at *);subst_vars;exact⟨rfl,rfl,rfl,rfl⟩)
theorem th(a b:bV):PC0 155 [agE a,agE b] (.t (agE (Jp a b))):=by
 obtain⟨a0,a1,a2,a3⟩:=a
 obtain⟨b0,b1,b2,b3⟩:=b
 refine ae (aK f155) ay func155 fun g F hg hF=> ?_
 cbv
 repeat'(first|(refine aV hg (dQ _ _) rfl (fun R0 ha=> ?_);cbv)|(split<;>rename_i hh<;>(try rw [hh])<;>(try simp only [dD hg]at hh)<;>cbv))
 all_goals exact Ed hF (by subst_vars;exact⟨rfl,rfl,rfl,rfl⟩)
theorem ir(l t r b:Int):PC0 125 [agE ⟨l,t,r,b⟩] (.i (adE l r)):=by
 refine ae (aK f125) ay func125 fun g F hg hF=> ?_
 cbv
 repeat'(first|(refine aV hg (aN _) rfl (fun R0 ha=> ?_);cbv)|(split<;>rename_i hh<;>(try rw [hh])<;>(try simp only [dD hg]at hh)<;>cbv))
 all_goals exact aU hF (by(try simp only [aJ hg]at *);subst_vars;rfl)
theorem iv(l t r b:Int):PC0 127 [agE ⟨l,t,r,b⟩] (.i (adE t b)):=by
 refine ae (aK f127) ay func127 fun g F hg hF=> ?_
 cbv
 repeat'(first|(refine aV hg (aN _) rfl (fun R0 ha=> ?_);cbv)|(split<;>rename_i hh<;>(try rw [hh])<;>(try simp only [dD hg]at hh)<;>cbv))
 all_goals exact aU hF (by(try simp only [aJ hg]at *);subst_vars;rfl)
theorem fP(l t r b:Int):PC0 79 [agE ⟨l,t,r,b⟩] (.i (adE l r)):=by
 refine ae (aK f79) ay func79 fun g F hg hF=> ?_
 cbv
 repeat'(first|(refine bk hg (dQ _ _) rfl (fun R0 ha=> ?_);cbv)|(split<;>rename_i hh<;>(try rw [hh])<;>(try simp only [dD hg]at hh)<;>cbv))
 all_goals exact aU hF (by subst_vars;rfl)
theorem fS(l t r b:Int):PC0 81 [agE ⟨l,t,r,b⟩] (.i (adE t b)):=by
 refine ae (aK f81) ay func81 fun g F hg hF=> ?_
 cbv
 repeat'(first|(refine bk hg (dQ _ _) rfl (fun R0 ha=> ?_);cbv)|(split<;>rename_i hh<;>(try rw [hh])<;>(try simp only [dD hg]at hh)<;>cbv))
 all_goals exact aU hF (by subst_vars;rfl)
theorem gz(s:ak):PC0 126 [.agg (lc (ak.c s))] (.t (agE (oh s))):=by
 obtain⟨a0,a1,a2,a3,a4,a5,a6,a7,a8,a9,hj,⟨hk,hl⟩,⟨hm,hn⟩,⟨ho,hp⟩,⟨hq,hr⟩,⟨hs,ht⟩,⟨hu,hv⟩,⟨hw,hx⟩,hy,⟨⟨hz,hA⟩,⟨hB,hC⟩,⟨hD,hE⟩,⟨hG,hH⟩,⟨hI,hJ⟩,⟨hK,hL⟩⟩,⟨⟨hM,hN⟩,⟨hO,hP⟩,⟨hQ,hR⟩,⟨hS,hT⟩,⟨hU,hV⟩,⟨hW,hX⟩⟩,⟨ha,hb,hc,hd⟩,⟨he,hf,hh,hi⟩,hY,hZ⟩:=s
 refine ae (aK f126) ay func126 fun g F hg hF=> ?_
 cbv
 refine Ep hg (sH ⟨ha,hb,hc,hd⟩ ⟨he,hf,hh,hi⟩) rfl (fun R0 R1 R2 R3 h0 h1 h2 h3=> ?_)
 cbv
 all_goals exact Ed hF (by subst_vars;exact⟨rfl,rfl,rfl,rfl⟩)
theorem fu(s:ak):PC0 80 [.agg (lc (ak.c s))] (.t (agE (oh s))):=by
 obtain⟨a0,a1,a2,a3,a4,a5,a6,a7,a8,a9,hj,⟨hk,hl⟩,⟨hm,hn⟩,⟨ho,hp⟩,⟨hq,hr⟩,⟨hs,ht⟩,⟨hu,hv⟩,⟨hw,hx⟩,hy,⟨⟨hz,hA⟩,⟨hB,hC⟩,⟨hD,hE⟩,⟨hG,hH⟩,⟨hI,hJ⟩,⟨hK,hL⟩⟩,⟨⟨hM,hN⟩,⟨hO,hP⟩,⟨hQ,hR⟩,⟨hS,hT⟩,⟨hU,hV⟩,⟨hW,hX⟩⟩,⟨ha,hb,hc,hd⟩,⟨he,hf,hh,hi⟩,hY,hZ⟩:=s
 refine ae (aK f80) ay func80 fun g F hg hF=> ?_
 cbv
 refine Ep hg (th ⟨ha,hb,hc,hd⟩ ⟨he,hf,hh,hi⟩) rfl (fun R0 R1 R2 R3 h0 h1 h2 h3=> ?_)
 cbv
 all_goals exact Ed hF (by subst_vars;exact⟨rfl,rfl,rfl,rfl⟩)
theorem ib(s:ak)(w:Bool):PC0 61 [.agg (lc (ak.c s)),abl w] (.i (ud s w)):=by
 cases w<;>(refine ae (aK f61) ay func61 fun g F hg hF=> ?_;cbv;repeat'(first|((first|refine Ep hg (gz s) rfl (fun R0 R1 R2 R3 ha hb hc hd=> ?_)|refine bk hg (ir _ _ _ _) rfl (fun R0 ha=> ?_)|refine bk hg (iv _ _ _ _) rfl (fun R0 ha=> ?_));cbv)|(split<;>rename_i hh<;>(try rw [hh])<;>(try simp only [dD hg]at hh)<;>cbv)))
 all_goals exact aU hF (by subst_vars;rfl)
theorem ky(s:ak)(w:Bool):PC0 166 [.agg (lc (ak.c s)),abl w] (.i (ud s w)):=by
 cases w<;>(refine ae (aK f166) ay func166 fun g F hg hF=> ?_;cbv;repeat'(first|((first|refine Ep hg (fu s) rfl (fun R0 R1 R2 R3 ha hb hc hd=> ?_)|refine bk hg (fP _ _ _ _) rfl (fun R0 ha=> ?_)|refine bk hg (fS _ _ _ _) rfl (fun R0 ha=> ?_));cbv)|(split<;>rename_i hh<;>(try rw [hh])<;>(try simp only [dD hg]at hh)<;>cbv)))
 all_goals exact aU hF (by subst_vars;rfl)
theorem eD(w:Bool)(a b c d:Int):PC0 143 [abl w,.agg [.J a,.J b],.agg [.J c,.J d]] (.t (agV (if w then⟨a,b⟩else⟨c,d⟩))):=by
 cases w<;>(refine ae (aK f143) ay func143 fun g F hg hF=> ?_;cbv;repeat'(first|(split<;>rename_i hh<;>(try rw [hh])<;>(try simp only [dD hg]at hh)<;>cbv)))
 all_goals exact m8 hF (by exact⟨rfl,rfl⟩)
theorem gg(w:Bool)(a b c d:Int):PC0 168 [abl w,.agg [.J a,.J b],.agg [.J c,.J d]] (.t (agV (if w then⟨a,b⟩else⟨c,d⟩))):=by
 cases w<;>(refine ae (aK f168) ay func168 fun g F hg hF=> ?_;cbv;repeat'(first|(split<;>rename_i hh<;>(try rw [hh])<;>(try simp only [dD hg]at hh)<;>cbv)))
 all_goals exact m8 hF (by exact⟨rfl,rfl⟩)
theorem jj(s:ak)(w:Bool)(b:Int):PC0 69 [.agg (lc (ak.c s)),abl w,ai b] (.i (Ca s w b)):=by
 obtain⟨a0,a1,a2,a3,a4,a5,a6,a7,a8,a9,hc,⟨hd,he⟩,⟨hf,hi⟩,⟨hj,hk⟩,⟨hl,hm⟩,⟨hn,ho⟩,⟨hp,hq⟩,⟨hr,hs⟩,ht,⟨⟨hu,hv⟩,⟨hw,hx⟩,⟨hy,hz⟩,⟨hA,hB⟩,⟨hC,hD⟩,⟨hE,hG⟩⟩,⟨⟨hH,hI⟩,⟨hJ,hK⟩,⟨hL,hM⟩,⟨hN,hO⟩,⟨hP,hQ⟩,⟨hR,hS⟩⟩,⟨hT,hU,hV,hW⟩,⟨hX,hY,hZ,h0⟩,h1,h2⟩:=s
 have hb:=ib (⟨a0,a1,a2,a3,a4,a5,a6,a7,a8,a9,hc,⟨hd,he⟩,⟨hf,hi⟩,⟨hj,hk⟩,⟨hl,hm⟩,⟨hn,ho⟩,⟨hp,hq⟩,⟨hr,hs⟩,ht,⟨⟨hu,hv⟩,⟨hw,hx⟩,⟨hy,hz⟩,⟨hA,hB⟩,⟨hC,hD⟩,⟨hE,hG⟩⟩,⟨⟨hH,hI⟩,⟨hJ,hK⟩,⟨hL,hM⟩,⟨hN,hO⟩,⟨hP,hQ⟩,⟨hR,hS⟩⟩,⟨hT,hU,hV,hW⟩,⟨hX,hY,hZ,h0⟩,h1,h2⟩:ak)
 cases w<;>(refine ae (aK f69) ay func69 fun g F hg hF=> ?_;cbv;repeat'(first|((first|refine tA hg (eD _ _ _ _ _) rfl (fun R0 R1 ha h3=> ?_)|refine bk hg (ef _ _ _) rfl (fun R0 ha=> ?_)|refine bk hg (jK _ _) rfl (fun R0 ha=> ?_)|refine bk hg (hb _) rfl (fun R0 ha=> ?_));cbv)|(split<;>rename_i hh<;>(try rw [hh])<;>(try simp only [dD hg]at hh)<;>cbv)))
 all_goals exact aU hF (by simp only [Ca];subst_vars;first|rfl|(split<;>first|rfl|contradiction|omega)|grind)
theorem jp(s:ak)(w:Bool)(b:Int):PC0 91 [.agg (lc (ak.c s)),abl w,ai b] (.i (Ca s w b)):=by
 cases w<;>(refine ae (aK f91) ay func91 fun g F hg hF=> ?_;cbv;repeat'(first|((first|refine mL hg (gg _ _ _ _ _) rfl (fun R0 R1 ha hb=> ?_)|refine aV hg (ej _ _ _) rfl (fun R0 ha=> ?_)|refine aV hg (n7 _ _) rfl (fun R0 ha=> ?_)|refine aV hg (ky s _) rfl (fun R0 ha=> ?_));cbv)|(split<;>rename_i hh<;>(try rw [hh])<;>(try simp only [dD hg]at hh)<;>cbv)))
 all_goals exact aU hF (by simp only [Ca,Fj hg];subst_vars;first|rfl|(split<;>first|rfl|contradiction|omega)|grind)
theorem jL(s:ak)(w:Bool)(b:Int):PC0 70 [.agg (lc (ak.c s)),abl w,ai b] (.i (Da s w b)):=by
 cases w<;>(refine ae (aK f70) ay func70 fun g F hg hF=> ?_;cbv;repeat'(first|((first|refine tA hg (eD _ _ _ _ _) rfl (fun R0 R1 ha hb=> ?_)|refine bk hg (ef _ _ _) rfl (fun R0 ha=> ?_));cbv)|(split<;>rename_i hh<;>(try rw [hh])<;>(try simp only [dD hg]at hh)<;>cbv)))
 all_goals exact aU hF (by subst_vars;rfl)
theorem jX(s:ak)(w:Bool)(b:Int):PC0 92 [.agg (lc (ak.c s)),abl w,ai b] (.i (Da s w b)):=by
 cases w<;>(refine ae (aK f92) ay func92 fun g F hg hF=> ?_;cbv;repeat'(first|((first|refine tA hg (gg _ _ _ _ _) rfl (fun R0 R1 ha hb=> ?_)|refine bk hg (ej _ _ _) rfl (fun R0 ha=> ?_));cbv)|(split<;>rename_i hh<;>(try rw [hh])<;>(try simp only [dD hg]at hh)<;>cbv)))
 all_goals exact aU hF (by subst_vars;rfl)
theorem gA(s:ak)(w:Bool)(b:Int):PC0 139 [.agg (lc (ak.c s)),abl w,ai b] (.i (rT s w b)):=by
 cases w<;>(refine ae (aK f139) ay func139 fun g F hg hF=> ?_;cbv;repeat'(first|((first|refine tA hg (eD _ _ _ _ _) rfl (fun R0 R1 ha hb=> ?_)|refine bk hg (ef _ _ _) rfl (fun R0 ha=> ?_));cbv)|(split<;>rename_i hh<;>(try rw [hh])<;>(try simp only [dD hg]at hh)<;>cbv)))
 all_goals exact aU hF (by subst_vars;rfl)
theorem gL(s:ak)(w:Bool)(b:Int):PC0 111 [.agg (lc (ak.c s)),abl w,ai b] (.i (rT s w b)):=by
 cases w<;>(refine ae (aK f111) ay func111 fun g F hg hF=> ?_;cbv;repeat'(first|((first|refine tA hg (gg _ _ _ _ _) rfl (fun R0 R1 ha hb=> ?_)|refine bk hg (ej _ _ _) rfl (fun R0 ha=> ?_));cbv)|(split<;>rename_i hh<;>(try rw [hh])<;>(try simp only [dD hg]at hh)<;>cbv)))
 all_goals exact aU hF (by subst_vars;rfl)
theorem fk(s:ak)(w:Bool)(b n:Int):PC0 104 [.agg (lc (ak.c s)),abl w,ai b,ai n] (.i (po s w b n)):=by
 refine ae (aK f104) ay func104 fun g F hg hF=> ?_
 cbv
 repeat'(first|((first|refine aV hg (jj s _ _) rfl (fun R0 ha=> ?_)|refine aV hg (jL s _ _) rfl (fun R0 ha=> ?_)|refine aV hg (jJ _ _ _) rfl (fun R0 ha=> ?_)|refine aV hg (aN _) rfl (fun R0 ha=> ?_));cbv)|(split<;>rename_i hh<;>(try rw [hh])<;>(try simp only [dD hg]at hh)<;>cbv))
 all_goals exact aU hF (by subst_vars;rfl)
theorem gN(s:ak)(w:Bool)(b n:Int):PC0 113 [.agg (lc (ak.c s)),abl w,ai b,ai n] (.i (po s w b n)):=by
 refine ae (aK f113) ay func113 fun g F hg hF=> ?_
 cbv
 repeat'(first|((first|refine aV hg (jp s _ _) rfl (fun R0 ha=> ?_)|refine aV hg (jX s _ _) rfl (fun R0 ha=> ?_)|refine aV hg (jV _ _ _) rfl (fun R0 ha=> ?_)|refine aV hg (aZ _) rfl (fun R0 ha=> ?_));cbv)|(split<;>rename_i hh<;>(try rw [hh])<;>(try simp only [dD hg]at hh)<;>cbv))
 all_goals exact aU hF (by subst_vars;rfl)
variable {F:Nat->Prop}
theorem CY{w:World}:∀(j:Nat)(x:AT),([]:List AT)[j]? =some x->∃v,([]:List Value)[j]? =some v/\RT F w [] [] x v:=fun j x h=>by simp at h
theorem jG{w:World}{x:AT}{v:Value}{xs:List AT}{vs:List Value}(h1:RT F w [] [] x v)(h2:∀(j:Nat)(x:AT),xs[j]? =some x->∃v,vs[j]? =some v/\RT F w [] [] x v):
  ∀(j:Nat)(y:AT),(x::xs)[j]? =some y->∃u,(v::vs)[j]? =some u/\RT F w [] [] y u:=fun j y h=>by
 cases j with
 |zero=>simp only [zqw,zqy]at h;subst h;exact⟨v,rfl,h1⟩
 |succ j=>exact h2 j y (by simpa using h)
theorem jo(n:Int):PC0 112 [ai n] (.t (.agg [.J 3,.J n])):=by
 refine ae (aK f112) ay func112 fun g F hg hF=> ?_
 cbv
 all_goals exact m8 hF (by exact⟨rfl,rfl⟩)
end Go.Proofs.YtkicjdeddpihaaaGreat
namespace Go.Proofs.YtkicjdeddpihaaaGreat
open Go.ChangeShapes Go.WideShapes Go.ChangeAt Go.RowKit
set_option maxRecDepth 100000
def dF(s:bh)(sd:Int)(rtl:Bool):dx:=
 if sd=1 then s.top else if sd=3 then s.bottom
 else if sd=0 then(if(if rtl then s.fin else s.start).kind≠0 then(if rtl then s.fin else s.start)else s.left)
 else if sd=2 then(if(if rtl then s.start else s.fin).kind≠0 then(if rtl then s.start else s.fin)else s.right)else⟨0,0⟩
theorem vz(s:bh)(sd:Int)(rtl:Bool)(w:World):
  Calls Tryz.prog 170 #[.agg #[.int .i64 s.left.kind,.int .i64 s.left.n,.int .i64 s.top.kind,.int .i64 s.top.n,.int .i64 s.right.kind,.int .i64 s.right.n,.int .i64 s.bottom.kind,.int .i64 s.bottom.n,.int .i64 s.start.kind,.int .i64 s.start.n,.int .i64 s.fin.kind,.int .i64 s.fin.n],.int .i64 sd,.bool rtl] w fun e w'=>e= .returned (.agg #[.int .i64 (dF s sd rtl).kind,.int .i64 (dF s sd rtl).n])/\Below w.heap.size w w':=by
 by_cases h1:sd=1
 ·subst h1
  cases rtl
  ·go_enter Tryz.func170,Tryz.ntmps170
   go_wp2
   go_region
   all_goals go_wp2
   all_goals(try go_wp2)
   all_goals(refine bodyPost_ret (v:= .agg #[.int .i64 (dF s 1 false).kind,.int .i64 (dF s 1 false).n]) (by simp [results,Tryz.results170,go_sem,dF, *]) rfl ?_)
   all_goals exact⟨rfl,by repeat(first|(with_reducible exact eY _)|(with_reducible assumption)|(with_reducible refine Below.setCell ?_ (by first|omega|(simp;done)|(simp;omega)) _)|(with_reducible refine bW ?_ _)|(with_reducible refine Below.drew ?_)|(with_reducible refine bn ?_ (by with_reducible assumption))|(with_reducible refine bn ?_ (dI _ _)))⟩
  ·go_enter Tryz.func170,Tryz.ntmps170
   go_wp2
   go_region
   all_goals go_wp2
   all_goals(try go_wp2)
   all_goals(refine bodyPost_ret (v:= .agg #[.int .i64 (dF s 1 true).kind,.int .i64 (dF s 1 true).n]) (by simp [results,Tryz.results170,go_sem,dF, *]) rfl ?_)
   all_goals exact⟨rfl,by repeat(first|(with_reducible exact eY _)|(with_reducible assumption)|(with_reducible refine Below.setCell ?_ (by first|omega|(simp;done)|(simp;omega)) _)|(with_reducible refine bW ?_ _)|(with_reducible refine Below.drew ?_)|(with_reducible refine bn ?_ (by with_reducible assumption))|(with_reducible refine bn ?_ (dI _ _)))⟩
 by_cases h3:sd=3
 ·subst h3
  cases rtl
  ·go_enter Tryz.func170,Tryz.ntmps170
   go_wp2
   go_region
   all_goals go_wp2
   all_goals(try go_wp2)
   all_goals(refine bodyPost_ret (v:= .agg #[.int .i64 (dF s 3 false).kind,.int .i64 (dF s 3 false).n]) (by simp [results,Tryz.results170,go_sem,dF, *]) rfl ?_)
   all_goals exact⟨rfl,by repeat(first|(with_reducible exact eY _)|(with_reducible assumption)|(with_reducible refine Below.setCell ?_ (by first|omega|(simp;done)|(simp;omega)) _)|(with_reducible refine bW ?_ _)|(with_reducible refine Below.drew ?_)|(with_reducible refine bn ?_ (by with_reducible assumption))|(with_reducible refine bn ?_ (dI _ _)))⟩
  ·go_enter Tryz.func170,Tryz.ntmps170
   go_wp2
   go_region
   all_goals go_wp2
   all_goals(try go_wp2)
   all_goals(refine bodyPost_ret (v:= .agg #[.int .i64 (dF s 3 true).kind,.int .i64 (dF s 3 true).n]) (by simp [results,Tryz.results170,go_sem,dF, *]) rfl ?_)
   all_goals exact⟨rfl,by repeat(first|(with_reducible exact eY _)|(with_reducible assumption)|(with_reducible refine Below.setCell ?_ (by first|omega|(simp;done)|(simp;omega)) _)|(with_reducible refine bW ?_ _)|(with_reducible refine Below.drew ?_)|(with_reducible refine bn ?_ (by with_reducible assumption))|(with_reducible refine bn ?_ (dI _ _)))⟩
 by_cases h0:sd=0
 ·subst h0
  cases rtl
  ·by_cases hk:s.start.kind=0
   ·go_enter Tryz.func170,Tryz.ntmps170
    go_wp2
    go_region
    all_goals go_wp2
    all_goals(try go_wp2)
    all_goals(refine bodyPost_ret (v:= .agg #[.int .i64 (dF s 0 false).kind,.int .i64 (dF s 0 false).n]) (by simp [results,Tryz.results170,go_sem,dF, *]) rfl ?_)
    all_goals exact⟨rfl,by repeat(first|(with_reducible exact eY _)|(with_reducible assumption)|(with_reducible refine Below.setCell ?_ (by first|omega|(simp;done)|(simp;omega)) _)|(with_reducible refine bW ?_ _)|(with_reducible refine Below.drew ?_)|(with_reducible refine bn ?_ (by with_reducible assumption))|(with_reducible refine bn ?_ (dI _ _)))⟩
   ·go_enter Tryz.func170,Tryz.ntmps170
    go_wp2
    go_region
    all_goals go_wp2
    all_goals(try go_wp2)
    all_goals(refine bodyPost_ret (v:= .agg #[.int .i64 (dF s 0 false).kind,.int .i64 (dF s 0 false).n]) (by simp [results,Tryz.results170,go_sem,dF, *]) rfl ?_)
    all_goals exact⟨rfl,by repeat(first|(with_reducible exact eY _)|(with_reducible assumption)|(with_reducible refine Below.setCell ?_ (by first|omega|(simp;done)|(simp;omega)) _)|(with_reducible refine bW ?_ _)|(with_reducible refine Below.drew ?_)|(with_reducible refine bn ?_ (by with_reducible assumption))|(with_reducible refine bn ?_ (dI _ _)))⟩
  ·by_cases hk:s.fin.kind=0
   ·go_enter Tryz.func170,Tryz.ntmps170
    go_wp2
    go_region
    all_goals go_wp2
    all_goals(try go_wp2)
    all_goals(refine bodyPost_ret (v:= .agg #[.int .i64 (dF s 0 true).kind,.int .i64 (dF s 0 true).n]) (by simp [results,Tryz.results170,go_sem,dF, *]) rfl ?_)
    all_goals exact⟨rfl,by repeat(first|(with_reducible exact eY _)|(with_reducible assumption)|(with_reducible refine Below.setCell ?_ (by first|omega|(simp;done)|(simp;omega)) _)|(with_reducible refine bW ?_ _)|(with_reducible refine Below.drew ?_)|(with_reducible refine bn ?_ (by with_reducible assumption))|(with_reducible refine bn ?_ (dI _ _)))⟩
   ·go_enter Tryz.func170,Tryz.ntmps170
    go_wp2
    go_region
    all_goals go_wp2
    all_goals(try go_wp2)
    all_goals(refine bodyPost_ret (v:= .agg #[.int .i64 (dF s 0 true).kind,.int .i64 (dF s 0 true).n]) (by simp [results,Tryz.results170,go_sem,dF, *]) rfl ?_)
    all_goals exact⟨rfl,by repeat(first|(with_reducible exact eY _)|(with_reducible assumption)|(with_reducible refine Below.setCell ?_ (by first|omega|(simp;done)|(simp;omega)) _)|(with_reducible refine bW ?_ _)|(with_reducible refine Below.drew ?_)|(with_reducible refine bn ?_ (by with_reducible assumption))|(with_reducible refine bn ?_ (dI _ _)))⟩
 by_cases h2:sd=2
 ·subst h2
  cases rtl
  ·by_cases hk:s.fin.kind=0
   ·go_enter Tryz.func170,Tryz.ntmps170
    go_wp2
    go_region
    all_goals go_wp2
    all_goals(try go_wp2)
    all_goals(refine bodyPost_ret (v:= .agg #[.int .i64 (dF s 2 false).kind,.int .i64 (dF s 2 false).n]) (by simp [results,Tryz.results170,go_sem,dF, *]) rfl ?_)
    all_goals exact⟨rfl,by repeat(first|(with_reducible exact eY _)|(with_reducible assumption)|(with_reducible refine Below.setCell ?_ (by first|omega|(simp;done)|(simp;omega)) _)|(with_reducible refine bW ?_ _)|(with_reducible refine Below.drew ?_)|(with_reducible refine bn ?_ (by with_reducible assumption))|(with_reducible refine bn ?_ (dI _ _)))⟩
   ·go_enter Tryz.func170,Tryz.ntmps170
    go_wp2
    go_region
    all_goals go_wp2
    all_goals(try go_wp2)
    all_goals(refine bodyPost_ret (v:= .agg #[.int .i64 (dF s 2 false).kind,.int .i64 (dF s 2 false).n]) (by simp [results,Tryz.results170,go_sem,dF, *]) rfl ?_)
    all_goals exact⟨rfl,by repeat(first|(with_reducible exact eY _)|(with_reducible assumption)|(with_reducible refine Below.setCell ?_ (by first|omega|(simp;done)|(simp;omega)) _)|(with_reducible refine bW ?_ _)|(with_reducible refine Below.drew ?_)|(with_reducible refine bn ?_ (by with_reducible assumption))|(with_reducible refine bn ?_ (dI _ _)))⟩
  ·by_cases hk:s.start.kind=0
   ·go_enter Tryz.func170,Tryz.ntmps170
    go_wp2
    go_region
    all_goals go_wp2
    all_goals(try go_wp2)
    all_goals(refine bodyPost_ret (v:= .agg #[.int .i64 (dF s 2 true).kind,.int .i64 (dF s 2 true).n]) (by simp [results,Tryz.results170,go_sem,dF, *]) rfl ?_)
    all_goals exact⟨rfl,by repeat(first|(with_reducible exact eY _)|(with_reducible assumption)|(with_reducible refine Below.setCell ?_ (by first|omega|(simp;done)|(simp;omega)) _)|(with_reducible refine bW ?_ _)|(with_reducible refine Below.drew ?_)|(with_reducible refine bn ?_ (by with_reducible assumption))|(with_reducible refine bn ?_ (dI _ _)))⟩
   ·go_enter Tryz.func170,Tryz.ntmps170
    go_wp2
    go_region
    all_goals go_wp2
    all_goals(try go_wp2)
    all_goals(refine bodyPost_ret (v:= .agg #[.int .i64 (dF s 2 true).kind,.int .i64 (dF s 2 true).n]) (by simp [results,Tryz.results170,go_sem,dF, *]) rfl ?_)
    all_goals exact⟨rfl,by repeat(first|(with_reducible exact eY _)|(with_reducible assumption)|(with_reducible refine Below.setCell ?_ (by first|omega|(simp;done)|(simp;omega)) _)|(with_reducible refine bW ?_ _)|(with_reducible refine Below.drew ?_)|(with_reducible refine bn ?_ (by with_reducible assumption))|(with_reducible refine bn ?_ (dI _ _)))⟩
 have g1:(sd==1)=false:=by simpa using h1
 have g3:(sd==3)=false:=by simpa using h3
 have g0:(sd==0)=false:=by simpa using h0
 have g2:(sd==2)=false:=by simpa using h2
 cases rtl
 ·go_enter Tryz.func170,Tryz.ntmps170
  go_wp2
  go_region
  all_goals go_wp2
  all_goals(try go_wp2)
  all_goals(refine bodyPost_ret (v:= .agg #[.int .i64 (dF s sd false).kind,.int .i64 (dF s sd false).n]) (by simp [results,Tryz.results170,go_sem,dF, *]) rfl ?_)
  all_goals exact⟨rfl,by repeat(first|(with_reducible exact eY _)|(with_reducible assumption)|(with_reducible refine Below.setCell ?_ (by first|omega|(simp;done)|(simp;omega)) _)|(with_reducible refine bW ?_ _)|(with_reducible refine Below.drew ?_)|(with_reducible refine bn ?_ (by with_reducible assumption))|(with_reducible refine bn ?_ (dI _ _)))⟩
 ·go_enter Tryz.func170,Tryz.ntmps170
  go_wp2
  go_region
  all_goals go_wp2
  all_goals(try go_wp2)
  all_goals(refine bodyPost_ret (v:= .agg #[.int .i64 (dF s sd true).kind,.int .i64 (dF s sd true).n]) (by simp [results,Tryz.results170,go_sem,dF, *]) rfl ?_)
  all_goals exact⟨rfl,by repeat(first|(with_reducible exact eY _)|(with_reducible assumption)|(with_reducible refine Below.setCell ?_ (by first|omega|(simp;done)|(simp;omega)) _)|(with_reducible refine bW ?_ _)|(with_reducible refine Below.drew ?_)|(with_reducible refine bn ?_ (by with_reducible assumption))|(with_reducible refine bn ?_ (dI _ _)))⟩
end Go.Proofs.YtkicjdeddpihaaaGreat
namespace Go.Proofs.YtkicjdeddpihaaaGreat
open Go.ChangeShapes Go.WideShapes Go.ChangeAt Go.RowKit Am Go.Proofs.Tryz
set_option maxRecDepth 100000
variable {F:Nat->Prop}{w:World}
theorem Ag{a:Array Value}{u:Value}(h:RT F w [] [] (.agg (lc a)) u):u= .agg a:=by
 obtain⟨vs,rfl,hl,hc⟩:=h
 have ha:vs.length=a.toList.length:=by rw [hl];simp [lc]
 have:vs=a.toList:=by
  refine List.ext_getElem? fun i=> ?_
  by_cases hi:i<a.toList.length
  ·have h1:=zqc hi
   obtain⟨u,hu,_,hr⟩:=hc i (.imm a.toList[i]) (by simp [lc,h1])
   rw [hu,h1]
   exact congrArg some hr
  ·rw [zqz (by omega),zqz (by omega)]
 rw [this]
theorem CX:∀(j:Nat)(x:AT)(u:Value),([]:List AT)[j]? =some x->RT F w [] [] x u->([]:List Value)[j]? =some u:=fun j x u h=>by simp at h
theorem oZ{x:AT}{v:Value}{xs:List AT}{vs:List Value}(h1:∀u,RT F w [] [] x u->u=v)(h2:∀(j:Nat)(x:AT)(u:Value),xs[j]? =some x->RT F w [] [] x u->vs[j]? =some u):
  ∀(j:Nat)(y:AT)(u:Value),(x::xs)[j]? =some y->RT F w [] [] y u->(v::vs)[j]? =some u:=fun j y u h hr=>by
 cases j with
 |zero=>simp only [zqw,zqy]at h;subst h;rw [h1 u hr];rfl
 |succ j=>exact h2 j y u (by simpa using h) hr
theorem n3(s:bh)(sd:Int)(rtl:Bool):PC0 170 [.agg (lc (bh.c s)),ai sd,abl rtl] (.t (agV (qL s sd rtl))):=
 uO (us:=[.agg (bh.c s),.int .i64 sd,.bool rtl]) (v:= .agg #[.int .i64 (qL s sd rtl).kind,.int .i64 (qL s sd rtl).n]) (by kernel_rfl) rfl
  (fun F w=>oZ (fun u h=>Ag h) (oZ (fun u h=>h) (oZ (fun u h=>h) CX)))
  (fun F w=>⟨[.int .i64 (qL s sd rtl).kind,.int .i64 (qL s sd rtl).n],rfl,rfl,fun j c hj=>by
   match j,hj with
   |0,hj=>cases hj;exact⟨_,rfl,rfl,rfl⟩
   |1,hj=>cases hj;exact⟨_,rfl,rfl,rfl⟩⟩)
  (fun w=>vz s sd rtl w)
end Go.Proofs.YtkicjdeddpihaaaGreat
