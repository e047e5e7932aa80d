/- Boxes without their edges, spaces of a root, frames in bounds. -/
import Derived.Test.YtkicjdeddpihaaaGreatS4au
set_option linter.unusedVariables false
set_option linter.unusedSimpArgs false
set_option maxHeartbeats 4000000
namespace Go.Proofs.YtkicjdeddpihaaaGreat
open Go.ChangeShapes Go.WideShapes Go.ChangeAt Go.RowKit Am Go.Proofs.Tryz
set_option maxRecDepth 100000
def bro(n l m:Int):Int:=if m<l\/n<l then l else if m<n then m else n
def cl(n:Int):Int:=bro n 0 1048576
def sg(n:Int):Int:=bro n (-1048576) 1048576
def fdv(a b:Int):Int:=if b<1 then 0 else if a.tmod b<0 then wrap64 (wrap64 (a.tdiv b)-1)else wrap64 (a.tdiv b)
def kn(v:dy)(base:Int):Bool:=decide (v.kind=1)||(decide (v.kind=2)&&decide (0<=base))
def GF(v:dy)(base:Int):Int:=if kn v base=false then-1 else if v.kind=1 then v.n else fdv (wrap64 (cl base*bro v.n (-1000000) 1000000)) 100
def tN(v:dy)(base:Int):Int:=if kn v base=false then-1 else cl (GF v base)
def orl(n m:Int):Int:=if n= -1 then m else n
def qN(s:bh)(sd:Int)(rtl:Bool):dy:=
 if sd=1 then s.top else if sd=3 then s.bottom
 else if sd=0 then(if(if rtl then s.fin else s.start).kind≠0 then(if rtl then s.fin else s.start)else s.left)
 else if sd=2 then(if(if rtl then s.start else s.fin).kind≠0 then(if rtl then s.start else s.fin)else s.right)else⟨0,0⟩
def adE(a b:Int):Int:=cl (wrap64 (cl a+cl b))
def Jv(a b:bS):bS:=⟨adE a.left b.left,adE a.top b.top,adE a.right b.right,adE a.bottom b.bottom⟩
def oc(s:ao):bS:=Jv s.pad s.border
def ui(s:ao)(wide:Bool):Int:=if wide then adE (oc s).left (oc s).right else adE (oc s).top (oc s).bottom
def Ch(s:ao)(wide:Bool)(base:Int):Int:=if ui s wide<orl (tN (if wide then s.minWidth else s.minHeight) base) 0 then orl (tN (if wide then s.minWidth else s.minHeight) base) 0 else ui s wide
def Di(s:ao)(wide:Bool)(base:Int):Int:=tN (if wide then s.maxWidth else s.maxHeight) base
def pi(s:ao)(wide:Bool)(base n:Int):Int:=cl (il n (Ch s wide base) (Di s wide base))
def rU(s:ao)(wide:Bool)(base:Int):Int:=tN (if wide then s.width else s.height) base
theorem eG(n l m:Int):PC0 197 [ai n,ai l,ai m] (.i (bro n l m)):=by
 refine ad (aM f197) ay func197 fun g F hg hF=> ?_
 cbv
 repeat'(first|(split<;>rename_i hh<;>(try rw [hh])<;>(try simp only [dD hg]at hh)<;>cbv))
 all_goals exact aV hF (by unfold bro;grind)
theorem eN(n l m:Int):PC0 221 [ai n,ai l,ai m] (.i (bro n l m)):=by
 refine ad (aM f221) ay func221 fun g F hg hF=> ?_
 cbv
 repeat'(first|(split<;>rename_i hh<;>(try rw [hh])<;>(try simp only [dD hg]at hh)<;>cbv))
 all_goals exact aV hF (by unfold bro;grind)
theorem bH(n l m:Int):PC0 120 [ai n,ai l,ai m] (.t (abl (decide (l<=n)&&decide (n<=m)))):=by
 refine ad (aM f120) ay func120 fun g F hg hF=> ?_
 cbv
 repeat'(first|(split<;>rename_i hh<;>(try rw [hh])<;>(try simp only [dD hg]at hh)<;>cbv))
 all_goals exact bk hF (by(try simp only [iR hg,iO hg]);grind)
theorem de(n l m:Int):PC0 148 [ai n,ai l,ai m] (.t (abl (decide (l<=n)&&decide (n<=m)))):=by
 refine ad (aM f148) ay func148 fun g F hg hF=> ?_
 cbv
 repeat'(first|(split<;>rename_i hh<;>(try rw [hh])<;>(try simp only [dD hg]at hh)<;>cbv))
 all_goals exact bk hF (by(try simp only [iR hg,iO hg]);grind)
theorem aQ(n:Int):PC0 124 [ai n] (.i (cl n)):=by
 refine ad (aM f124) ay func124 fun g F hg hF=> ?_
 cbv
 repeat'(first|(refine bm hg (eG _ _ _) rfl (fun R0 ha=> ?_);cbv)|(split<;>rename_i hh<;>(try rw [hh])<;>(try simp only [dD hg]at hh)<;>cbv))
 all_goals exact aV hF (by subst_vars;rfl)
theorem aZ(n:Int):PC0 153 [ai n] (.i (cl n)):=by
 refine ad (aM f153) ay func153 fun g F hg hF=> ?_
 cbv
 repeat'(first|(refine bm hg (eN _ _ _) rfl (fun R0 ha=> ?_);cbv)|(split<;>rename_i hh<;>(try rw [hh])<;>(try simp only [dD hg]at hh)<;>cbv))
 all_goals exact aV hF (by subst_vars;rfl)
theorem bP(n:Int):PC0 207 [ai n] (.i (sg n)):=by
 refine ad (aM f207) ay func207 fun g F hg hF=> ?_
 cbv
 repeat'(first|(refine bm hg (eG _ _ _) rfl (fun R0 ha=> ?_);cbv)|(split<;>rename_i hh<;>(try rw [hh])<;>(try simp only [dD hg]at hh)<;>cbv))
 all_goals exact aV hF (by subst_vars;rfl)
theorem bZ(n:Int):PC0 227 [ai n] (.i (sg n)):=by
 refine ad (aM f227) ay func227 fun g F hg hF=> ?_
 cbv
 repeat'(first|(refine bm hg (eN _ _ _) rfl (fun R0 ha=> ?_);cbv)|(split<;>rename_i hh<;>(try rw [hh])<;>(try simp only [dD hg]at hh)<;>cbv))
 all_goals exact aV hF (by subst_vars;rfl)
theorem qH(n:Int):PC0 262 [ai n] (.i (bro n (-1000000) 1000000)):=by
 refine ad (aM f262) ay func262 fun g F hg hF=> ?_
 cbv
 repeat'(first|(refine bm hg (eG _ _ _) rfl (fun R0 ha=> ?_);cbv)|(split<;>rename_i hh<;>(try rw [hh])<;>(try simp only [dD hg]at hh)<;>cbv))
 all_goals exact aV hF (by subst_vars;rfl)
theorem bI(a b:Int):PC0 209 [ai a,ai b] (.i (fdv a b)):=by
 refine ad (aM f209) ay func209 fun g F hg hF=> ?_
 cbv
 by_cases hb:b<1
 ·have h0:g .q .lss b 1=true:=by rw [bg hg];simpa using hb
  rw [h0]
  cbv
  all_goals exact aV hF (by unfold fdv;rw [if_pos hb])
 ·have h0:g .q .lss b 1=false:=by rw [bg hg];simpa using hb
  rw [h0]
  cbv
  refine Hm hg (by omega) ?_
  cbv
  refine Hm hg (by omega) ?_
  cbv
  repeat'(first|(split<;>rename_i hh<;>(try rw [hh])<;>(try simp only [dD hg]at hh)<;>cbv))
  all_goals exact aV hF (by unfold fdv;simp only [Ec hg,GL hg,dp hg]at *;grind)
theorem bJ(a b:Int):PC0 191 [ai a,ai b] (.i (fdv a b)):=by
 refine ad (aM f191) ay func191 fun g F hg hF=> ?_
 cbv
 by_cases hb:b<1
 ·have h0:g .q .lss b 1=true:=by rw [bg hg];simpa using hb
  rw [h0]
  cbv
  all_goals exact aV hF (by unfold fdv;rw [if_pos hb])
 ·have h0:g .q .lss b 1=false:=by rw [bg hg];simpa using hb
  rw [h0]
  cbv
  refine Hm hg (by omega) ?_
  cbv
  refine Hm hg (by omega) ?_
  cbv
  repeat'(first|(split<;>rename_i hh<;>(try rw [hh])<;>(try simp only [dD hg]at hh)<;>cbv))
  all_goals exact aV hF (by unfold fdv;simp only [Ec hg,GL hg,dp hg]at *;grind)
theorem fA(k n b:Int):PC0 206 [.agg [.J k,.J n],ai b] (.t (abl (kn ⟨k,n⟩ b))):=by
 refine ad (aM f206) ay func206 fun g F hg hF=> ?_
 cbv
 repeat'(first|(split<;>rename_i hh<;>(try rw [hh])<;>(try simp only [dD hg]at hh)<;>cbv))
 all_goals exact bk hF (by(try simp only [iR hg,iO hg,bn hg]);simp only [kn];grind)
theorem fF(k n b:Int):PC0 225 [.agg [.J k,.J n],ai b] (.t (abl (kn ⟨k,n⟩ b))):=by
 refine ad (aM f225) ay func225 fun g F hg hF=> ?_
 cbv
 repeat'(first|(split<;>rename_i hh<;>(try rw [hh])<;>(try simp only [dD hg]at hh)<;>cbv))
 all_goals exact bk hF (by(try simp only [iR hg,iO hg,bn hg]);simp only [kn];grind)
theorem fK(k n b:Int):PC0 208 [.agg [.J k,.J n],ai b] (.i (GF ⟨k,n⟩ b)):=by
 refine ad (aM f208) ay func208 fun g F hg hF=> ?_
 cbv
 repeat'(first|(refine bv hg (fA _ _ _) rfl (fun R0 ha=> ?_);cases R0<;>cbv)|((first|refine aX hg (aQ _) rfl (fun R0 ha=> ?_)|refine aX hg (qH _) rfl (fun R0 ha=> ?_)|refine aX hg (bI _ _) rfl (fun R0 ha=> ?_));cbv)|(split<;>rename_i hh<;>(try rw [hh])<;>(try simp only [dD hg]at hh)<;>cbv))
 all_goals exact aV hF (by(try simp only [gk hg]at *);simp only [GF];grind)
theorem fP(k n b:Int):PC0 226 [.agg [.J k,.J n],ai b] (.i (GF ⟨k,n⟩ b)):=by
 refine ad (aM f226) ay func226 fun g F hg hF=> ?_
 cbv
 repeat'(first|(refine bv hg (fF _ _ _) rfl (fun R0 ha=> ?_);cases R0<;>cbv)|((first|refine aX hg (aZ _) rfl (fun R0 ha=> ?_)|refine aX hg (eN _ _ _) rfl (fun R0 ha=> ?_)|refine aX hg (bJ _ _) rfl (fun R0 ha=> ?_));cbv)|(split<;>rename_i hh<;>(try rw [hh])<;>(try simp only [dD hg]at hh)<;>cbv))
 all_goals exact aV hF (by(try simp only [gk hg]at *);simp only [GF];grind)
theorem ef(k n b:Int):PC0 138 [.agg [.J k,.J n],ai b] (.i (tN ⟨k,n⟩ b)):=by
 refine ad (aM f138) ay func138 fun g F hg hF=> ?_
 cbv
 repeat'(first|(refine bv hg (fA _ _ _) rfl (fun R0 ha=> ?_);cases R0<;>cbv)|((first|refine bm hg (aQ _) rfl (fun R0 ha=> ?_)|refine bm hg (fK _ _ _) rfl (fun R0 ha=> ?_));cbv)|(split<;>rename_i hh<;>(try rw [hh])<;>(try simp only [dD hg]at hh)<;>cbv))
 all_goals exact aV hF (by simp only [tN];grind)
theorem ej(k n b:Int):PC0 164 [.agg [.J k,.J n],ai b] (.i (tN ⟨k,n⟩ b)):=by
 refine ad (aM f164) ay func164 fun g F hg hF=> ?_
 cbv
 repeat'(first|(refine bv hg (fF _ _ _) rfl (fun R0 ha=> ?_);cases R0<;>cbv)|((first|refine bm hg (aZ _) rfl (fun R0 ha=> ?_)|refine bm hg (fP _ _ _) rfl (fun R0 ha=> ?_));cbv)|(split<;>rename_i hh<;>(try rw [hh])<;>(try simp only [dD hg]at hh)<;>cbv))
 all_goals exact aV hF (by simp only [tN];grind)
theorem jL(n m:Int):PC0 137 [ai n,ai m] (.i (orl n m)):=by
 refine ad (aM f137) ay func137 fun g F hg hF=> ?_
 cbv
 repeat'(first|(split<;>rename_i hh<;>(try rw [hh])<;>(try simp only [dD hg]at hh)<;>cbv))
 all_goals exact aV hF (by simp only [orl];grind)
theorem nY(n m:Int):PC0 167 [ai n,ai m] (.i (orl n m)):=by
 refine ad (aM f167) ay func167 fun g F hg hF=> ?_
 cbv
 repeat'(first|(split<;>rename_i hh<;>(try rw [hh])<;>(try simp only [dD hg]at hh)<;>cbv))
 all_goals exact aV hF (by simp only [orl];grind)
abbrev agV(v:dy):AT:= .agg [.J v.kind,.J v.n]
abbrev agP(v:az):AT:= .agg [.J v.mode,.J v.n]
abbrev agE(e:bS):AT:= .agg [.J e.left,.J e.top,.J e.right,.J e.bottom]
theorem nm(s:bh)(sd:Int)(rtl:Bool):PC0 205 [.agg (lc (bh.c s)),ai sd,abl rtl] (.t (agV (qN s sd rtl))):=by
 obtain⟨⟨a0,a1⟩,⟨a2,a3⟩,⟨a4,a5⟩,⟨a6,a7⟩,⟨a8,a9⟩,⟨ha,hb⟩⟩:=s
 cases rtl<;>(refine ad (aM f205) ay func205 fun g F hg hF=> ?_;cbv;repeat'(first|(split<;>rename_i hh<;>(try rw [hh])<;>(try simp only [dD hg]at hh)<;>cbv)))
 all_goals exact mX hF (by simp only [qN];grind)
theorem dP(a b:Int):PC0 154 [ai a,ai b] (.i (adE a b)):=by
 refine ad (aM f154) ay func154 fun g F hg hF=> ?_
 cbv
 repeat'(first|(refine bm hg (aZ _) rfl (fun R0 ha=> ?_);cbv)|(split<;>rename_i hh<;>(try rw [hh])<;>(try simp only [dD hg]at hh)<;>cbv))
 all_goals exact aV hF (by(try simp only [aJ hg]at *);subst_vars;rfl)
theorem sI(a b:bS):PC0 198 [agE a,agE b] (.t (agE (Jv a b))):=by
 obtain⟨a0,a1,a2,a3⟩:=a
 obtain⟨b0,b1,b2,b3⟩:=b
 refine ad (aM f198) ay func198 fun g F hg hF=> ?_
 cbv
 repeat'(first|(refine aX hg (aQ _) rfl (fun R0 ha=> ?_);cbv)|(split<;>rename_i hh<;>(try rw [hh])<;>(try simp only [dD hg]at hh)<;>cbv))
 all_goals exact Em hF (by(try simp only [aJ hg]at *);subst_vars;exact⟨rfl,rfl,rfl,rfl⟩)
theorem tu(a b:bS):PC0 155 [agE a,agE b] (.t (agE (Jv a b))):=by
 obtain⟨a0,a1,a2,a3⟩:=a
 obtain⟨b0,b1,b2,b3⟩:=b
 refine ad (aM f155) ay func155 fun g F hg hF=> ?_
 cbv
 repeat'(first|(refine aX hg (dP _ _) rfl (fun R0 ha=> ?_);cbv)|(split<;>rename_i hh<;>(try rw [hh])<;>(try simp only [dD hg]at hh)<;>cbv))
 all_goals exact Em hF (by subst_vars;exact⟨rfl,rfl,rfl,rfl⟩)
theorem io(l t r b:Int):PC0 125 [agE ⟨l,t,r,b⟩] (.i (adE l r)):=by
 refine ad (aM f125) ay func125 fun g F hg hF=> ?_
 cbv
 repeat'(first|(refine aX hg (aQ _) rfl (fun R0 ha=> ?_);cbv)|(split<;>rename_i hh<;>(try rw [hh])<;>(try simp only [dD hg]at hh)<;>cbv))
 all_goals exact aV hF (by(try simp only [aJ hg]at *);subst_vars;rfl)
theorem iq(l t r b:Int):PC0 127 [agE ⟨l,t,r,b⟩] (.i (adE t b)):=by
 refine ad (aM f127) ay func127 fun g F hg hF=> ?_
 cbv
 repeat'(first|(refine aX hg (aQ _) rfl (fun R0 ha=> ?_);cbv)|(split<;>rename_i hh<;>(try rw [hh])<;>(try simp only [dD hg]at hh)<;>cbv))
 all_goals exact aV hF (by(try simp only [aJ hg]at *);subst_vars;rfl)
theorem fO(l t r b:Int):PC0 79 [agE ⟨l,t,r,b⟩] (.i (adE l r)):=by
 refine ad (aM f79) ay func79 fun g F hg hF=> ?_
 cbv
 repeat'(first|(refine bm hg (dP _ _) rfl (fun R0 ha=> ?_);cbv)|(split<;>rename_i hh<;>(try rw [hh])<;>(try simp only [dD hg]at hh)<;>cbv))
 all_goals exact aV hF (by subst_vars;rfl)
theorem fQ(l t r b:Int):PC0 81 [agE ⟨l,t,r,b⟩] (.i (adE t b)):=by
 refine ad (aM f81) ay func81 fun g F hg hF=> ?_
 cbv
 repeat'(first|(refine bm hg (dP _ _) rfl (fun R0 ha=> ?_);cbv)|(split<;>rename_i hh<;>(try rw [hh])<;>(try simp only [dD hg]at hh)<;>cbv))
 all_goals exact aV hF (by subst_vars;rfl)
theorem gx(s:ao):PC0 126 [.agg (lc (ao.c s))] (.t (agE (oc s))):=by
 obtain⟨a0,a1,a2,a3,a4,a5,a6,a7,a8,a9,hj,⟨hk,hl⟩,⟨hm,hn⟩,⟨ho,hp⟩,⟨hq,hr⟩,⟨hs,ht⟩,⟨hu,hv⟩,⟨hw,hx⟩,hy,⟨⟨hz,hA⟩,⟨hB,hC⟩,⟨hD,hE⟩,⟨hG,hH⟩,⟨hI,hJ⟩,⟨hK,hL⟩⟩,⟨⟨hM,hN⟩,⟨hO,hP⟩,⟨hQ,hR⟩,⟨hS,hT⟩,⟨hU,hV⟩,⟨hW,hX⟩⟩,⟨ha,hb,hc,hd⟩,⟨he,hf,hh,hi⟩,hY,hZ⟩:=s
 refine ad (aM f126) ay func126 fun g F hg hF=> ?_
 cbv
 refine Ez hg (sI ⟨ha,hb,hc,hd⟩ ⟨he,hf,hh,hi⟩) rfl (fun R0 R1 R2 R3 h0 h1 h2 h3=> ?_)
 cbv
 all_goals exact Em hF (by subst_vars;exact⟨rfl,rfl,rfl,rfl⟩)
theorem fq(s:ao):PC0 80 [.agg (lc (ao.c s))] (.t (agE (oc s))):=by
 obtain⟨a0,a1,a2,a3,a4,a5,a6,a7,a8,a9,hj,⟨hk,hl⟩,⟨hm,hn⟩,⟨ho,hp⟩,⟨hq,hr⟩,⟨hs,ht⟩,⟨hu,hv⟩,⟨hw,hx⟩,hy,⟨⟨hz,hA⟩,⟨hB,hC⟩,⟨hD,hE⟩,⟨hG,hH⟩,⟨hI,hJ⟩,⟨hK,hL⟩⟩,⟨⟨hM,hN⟩,⟨hO,hP⟩,⟨hQ,hR⟩,⟨hS,hT⟩,⟨hU,hV⟩,⟨hW,hX⟩⟩,⟨ha,hb,hc,hd⟩,⟨he,hf,hh,hi⟩,hY,hZ⟩:=s
 refine ad (aM f80) ay func80 fun g F hg hF=> ?_
 cbv
 refine Ez hg (tu ⟨ha,hb,hc,hd⟩ ⟨he,hf,hh,hi⟩) rfl (fun R0 R1 R2 R3 h0 h1 h2 h3=> ?_)
 cbv
 all_goals exact Em hF (by subst_vars;exact⟨rfl,rfl,rfl,rfl⟩)
theorem hP(s:ao)(w:Bool):PC0 61 [.agg (lc (ao.c s)),abl w] (.i (ui s w)):=by
 cases w<;>(refine ad (aM f61) ay func61 fun g F hg hF=> ?_;cbv;repeat'(first|((first|refine Ez hg (gx s) rfl (fun R0 R1 R2 R3 ha hb hc hd=> ?_)|refine bm hg (io _ _ _ _) rfl (fun R0 ha=> ?_)|refine bm hg (iq _ _ _ _) rfl (fun R0 ha=> ?_));cbv)|(split<;>rename_i hh<;>(try rw [hh])<;>(try simp only [dD hg]at hh)<;>cbv)))
 all_goals exact aV hF (by subst_vars;rfl)
theorem kw(s:ao)(w:Bool):PC0 166 [.agg (lc (ao.c s)),abl w] (.i (ui s w)):=by
 cases w<;>(refine ad (aM f166) ay func166 fun g F hg hF=> ?_;cbv;repeat'(first|((first|refine Ez hg (fq s) rfl (fun R0 R1 R2 R3 ha hb hc hd=> ?_)|refine bm hg (fO _ _ _ _) rfl (fun R0 ha=> ?_)|refine bm hg (fQ _ _ _ _) rfl (fun R0 ha=> ?_));cbv)|(split<;>rename_i hh<;>(try rw [hh])<;>(try simp only [dD hg]at hh)<;>cbv)))
 all_goals exact aV hF (by subst_vars;rfl)
theorem eD(w:Bool)(a b c d:Int):PC0 143 [abl w,.agg [.J a,.J b],.agg [.J c,.J d]] (.t (agV (if w then⟨a,b⟩else⟨c,d⟩))):=by
 cases w<;>(refine ad (aM f143) ay func143 fun g F hg hF=> ?_;cbv;repeat'(first|(split<;>rename_i hh<;>(try rw [hh])<;>(try simp only [dD hg]at hh)<;>cbv)))
 all_goals exact mX hF (by exact⟨rfl,rfl⟩)
theorem gf(w:Bool)(a b c d:Int):PC0 168 [abl w,.agg [.J a,.J b],.agg [.J c,.J d]] (.t (agV (if w then⟨a,b⟩else⟨c,d⟩))):=by
 cases w<;>(refine ad (aM f168) ay func168 fun g F hg hF=> ?_;cbv;repeat'(first|(split<;>rename_i hh<;>(try rw [hh])<;>(try simp only [dD hg]at hh)<;>cbv)))
 all_goals exact mX hF (by exact⟨rfl,rfl⟩)
theorem jh(s:ao)(w:Bool)(b:Int):PC0 69 [.agg (lc (ao.c s)),abl w,ai b] (.i (Ch s w b)):=by
 obtain⟨a0,a1,a2,a3,a4,a5,a6,a7,a8,a9,hc,⟨hd,he⟩,⟨hf,hi⟩,⟨hj,hk⟩,⟨hl,hm⟩,⟨hn,ho⟩,⟨hp,hq⟩,⟨hr,hs⟩,ht,⟨⟨hu,hv⟩,⟨hw,hx⟩,⟨hy,hz⟩,⟨hA,hB⟩,⟨hC,hD⟩,⟨hE,hG⟩⟩,⟨⟨hH,hI⟩,⟨hJ,hK⟩,⟨hL,hM⟩,⟨hN,hO⟩,⟨hQ,hR⟩,⟨hS,hT⟩⟩,⟨hU,hV,hW,hX⟩,⟨hY,hZ,h0,h1⟩,h2,h3⟩:=s
 have hb:=hP (⟨a0,a1,a2,a3,a4,a5,a6,a7,a8,a9,hc,⟨hd,he⟩,⟨hf,hi⟩,⟨hj,hk⟩,⟨hl,hm⟩,⟨hn,ho⟩,⟨hp,hq⟩,⟨hr,hs⟩,ht,⟨⟨hu,hv⟩,⟨hw,hx⟩,⟨hy,hz⟩,⟨hA,hB⟩,⟨hC,hD⟩,⟨hE,hG⟩⟩,⟨⟨hH,hI⟩,⟨hJ,hK⟩,⟨hL,hM⟩,⟨hN,hO⟩,⟨hQ,hR⟩,⟨hS,hT⟩⟩,⟨hU,hV,hW,hX⟩,⟨hY,hZ,h0,h1⟩,h2,h3⟩:ao)
 cases w<;>(refine ad (aM f69) ay func69 fun g F hg hF=> ?_;cbv;repeat'(first|((first|refine tE hg (eD _ _ _ _ _) rfl (fun R0 R1 ha h4=> ?_)|refine bm hg (ef _ _ _) rfl (fun R0 ha=> ?_)|refine bm hg (jL _ _) rfl (fun R0 ha=> ?_)|refine bm hg (hb _) rfl (fun R0 ha=> ?_));cbv)|(split<;>rename_i hh<;>(try rw [hh])<;>(try simp only [dD hg]at hh)<;>cbv)))
 all_goals exact aV hF (by simp only [Ch];subst_vars;first|rfl|(split<;>first|rfl|contradiction|omega)|grind)
theorem jo(s:ao)(w:Bool)(b:Int):PC0 91 [.agg (lc (ao.c s)),abl w,ai b] (.i (Ch s w b)):=by
 cases w<;>(refine ad (aM f91) ay func91 fun g F hg hF=> ?_;cbv;repeat'(first|((first|refine mK hg (gf _ _ _ _ _) rfl (fun R0 R1 ha hb=> ?_)|refine aX hg (ej _ _ _) rfl (fun R0 ha=> ?_)|refine aX hg (nY _ _) rfl (fun R0 ha=> ?_)|refine aX hg (kw s _) rfl (fun R0 ha=> ?_));cbv)|(split<;>rename_i hh<;>(try rw [hh])<;>(try simp only [dD hg]at hh)<;>cbv)))
 all_goals exact aV hF (by simp only [Ch,Fy hg];subst_vars;first|rfl|(split<;>first|rfl|contradiction|omega)|grind)
theorem jM(s:ao)(w:Bool)(b:Int):PC0 70 [.agg (lc (ao.c s)),abl w,ai b] (.i (Di s w b)):=by
 cases w<;>(refine ad (aM f70) ay func70 fun g F hg hF=> ?_;cbv;repeat'(first|((first|refine tE hg (eD _ _ _ _ _) rfl (fun R0 R1 ha hb=> ?_)|refine bm hg (ef _ _ _) rfl (fun R0 ha=> ?_));cbv)|(split<;>rename_i hh<;>(try rw [hh])<;>(try simp only [dD hg]at hh)<;>cbv)))
 all_goals exact aV hF (by subst_vars;rfl)
theorem jY(s:ao)(w:Bool)(b:Int):PC0 92 [.agg (lc (ao.c s)),abl w,ai b] (.i (Di s w b)):=by
 cases w<;>(refine ad (aM f92) ay func92 fun g F hg hF=> ?_;cbv;repeat'(first|((first|refine tE hg (gf _ _ _ _ _) rfl (fun R0 R1 ha hb=> ?_)|refine bm hg (ej _ _ _) rfl (fun R0 ha=> ?_));cbv)|(split<;>rename_i hh<;>(try rw [hh])<;>(try simp only [dD hg]at hh)<;>cbv)))
 all_goals exact aV hF (by subst_vars;rfl)
theorem gy(s:ao)(w:Bool)(b:Int):PC0 139 [.agg (lc (ao.c s)),abl w,ai b] (.i (rU s w b)):=by
 cases w<;>(refine ad (aM f139) ay func139 fun g F hg hF=> ?_;cbv;repeat'(first|((first|refine tE hg (eD _ _ _ _ _) rfl (fun R0 R1 ha hb=> ?_)|refine bm hg (ef _ _ _) rfl (fun R0 ha=> ?_));cbv)|(split<;>rename_i hh<;>(try rw [hh])<;>(try simp only [dD hg]at hh)<;>cbv)))
 all_goals exact aV hF (by subst_vars;rfl)
theorem gJ(s:ao)(w:Bool)(b:Int):PC0 111 [.agg (lc (ao.c s)),abl w,ai b] (.i (rU s w b)):=by
 cases w<;>(refine ad (aM f111) ay func111 fun g F hg hF=> ?_;cbv;repeat'(first|((first|refine tE hg (gf _ _ _ _ _) rfl (fun R0 R1 ha hb=> ?_)|refine bm hg (ej _ _ _) rfl (fun R0 ha=> ?_));cbv)|(split<;>rename_i hh<;>(try rw [hh])<;>(try simp only [dD hg]at hh)<;>cbv)))
 all_goals exact aV hF (by subst_vars;rfl)
theorem fi(s:ao)(w:Bool)(b n:Int):PC0 104 [.agg (lc (ao.c s)),abl w,ai b,ai n] (.i (pi s w b n)):=by
 refine ad (aM f104) ay func104 fun g F hg hF=> ?_
 cbv
 repeat'(first|((first|refine aX hg (jh s _ _) rfl (fun R0 ha=> ?_)|refine aX hg (jM s _ _) rfl (fun R0 ha=> ?_)|refine aX hg (jK _ _ _) rfl (fun R0 ha=> ?_)|refine aX hg (aQ _) rfl (fun R0 ha=> ?_));cbv)|(split<;>rename_i hh<;>(try rw [hh])<;>(try simp only [dD hg]at hh)<;>cbv))
 all_goals exact aV hF (by subst_vars;rfl)
theorem gL(s:ao)(w:Bool)(b n:Int):PC0 113 [.agg (lc (ao.c s)),abl w,ai b,ai n] (.i (pi s w b n)):=by
 refine ad (aM f113) ay func113 fun g F hg hF=> ?_
 cbv
 repeat'(first|((first|refine aX hg (jo s _ _) rfl (fun R0 ha=> ?_)|refine aX hg (jY s _ _) rfl (fun R0 ha=> ?_)|refine aX hg (jX _ _ _) rfl (fun R0 ha=> ?_)|refine aX hg (aZ _) rfl (fun R0 ha=> ?_));cbv)|(split<;>rename_i hh<;>(try rw [hh])<;>(try simp only [dD hg]at hh)<;>cbv))
 all_goals exact aV hF (by subst_vars;rfl)
variable {F:Nat->Prop}
theorem C6{w:World}:∀(j:Nat)(x:AT),([]:List AT)[j]? =some x->∃v,([]:List Value)[j]? =some v/\RT F w [] [] x v:=fun j x h=>by simp at h
theorem jH{w:World}{x:AT}{v:Value}{xs:List AT}{vs:List Value}(h1:RT F w [] [] x v)(h2:∀(j:Nat)(x:AT),xs[j]? =some x->∃v,vs[j]? =some v/\RT F w [] [] x v):
  ∀(j:Nat)(y:AT),(x::xs)[j]? =some y->∃u,(v::vs)[j]? =some u/\RT F w [] [] y u:=fun j y h=>by
 cases j with
 |zero=>simp only [zqw,zqy]at h;subst h;exact⟨v,rfl,h1⟩
 |succ j=>exact h2 j y (by simpa using h)
theorem jm(n:Int):PC0 112 [ai n] (.t (.agg [.J 3,.J n])):=by
 refine ad (aM f112) ay func112 fun g F hg hF=> ?_
 cbv
 all_goals exact mX hF (by exact⟨rfl,rfl⟩)
end Go.Proofs.YtkicjdeddpihaaaGreat
