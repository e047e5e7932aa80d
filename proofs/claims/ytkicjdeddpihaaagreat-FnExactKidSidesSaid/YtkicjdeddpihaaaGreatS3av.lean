/- Boxes without their edges, spaces of a root, frames in bounds. -/
import Derived.Test.YtkicjdeddpihaaaGreatS3au
set_option linter.unusedVariables false
set_option linter.unusedSimpArgs false
set_option maxHeartbeats 4000000
namespace Go.Proofs.YtkicjdeddpihaaaGreat
open Go.ChangeShapes Go.WideShapes Go.ChangeAt Go.RowKit Am Go.Proofs.Tryz
set_option maxRecDepth 100000
def bro(n l m:Int):Int:=if m<l\/n<l then l else if m<n then m else n
def cl(n:Int):Int:=bro n 0 1048576
def sg(n:Int):Int:=bro n (-1048576) 1048576
def fdv(a b:Int):Int:=if b<1 then 0 else if a.tmod b<0 then wrap64 (wrap64 (a.tdiv b)-1)else wrap64 (a.tdiv b)
def kn(v:dy)(base:Int):Bool:=decide (v.kind=1)||(decide (v.kind=2)&&decide (0<=base))
def GO(v:dy)(base:Int):Int:=if kn v base=false then-1 else if v.kind=1 then v.n else fdv (wrap64 (cl base*bro v.n (-1000000) 1000000)) 100
def ud(v:dy)(base:Int):Int:=if kn v base=false then-1 else cl (GO v base)
def orl(n m:Int):Int:=if n= -1 then m else n
def rh(s:bh)(sd:Int)(rtl:Bool):dy:=
 if sd=1 then s.top else if sd=3 then s.bottom
 else if sd=0 then(if(if rtl then s.fin else s.start).kind≠0 then(if rtl then s.fin else s.start)else s.left)
 else if sd=2 then(if(if rtl then s.start else s.fin).kind≠0 then(if rtl then s.start else s.fin)else s.right)else⟨0,0⟩
def adE(a b:Int):Int:=cl (wrap64 (cl a+cl b))
def JK(a b:bV):bV:=⟨adE a.left b.left,adE a.top b.top,adE a.right b.right,adE a.bottom b.bottom⟩
def oE(s:ak):bV:=JK s.pad s.border
def uA(s:ak)(wide:Bool):Int:=if wide then adE (oE s).left (oE s).right else adE (oE s).top (oE s).bottom
def Cz(s:ak)(wide:Bool)(base:Int):Int:=if uA s wide<orl (ud (if wide then s.minWidth else s.minHeight) base) 0 then orl (ud (if wide then s.minWidth else s.minHeight) base) 0 else uA s wide
def Dy(s:ak)(wide:Bool)(base:Int):Int:=ud (if wide then s.maxWidth else s.maxHeight) base
def qa(s:ak)(wide:Bool)(base n:Int):Int:=cl (iu n (Cz s wide base) (Dy s wide base))
def sq(s:ak)(wide:Bool)(base:Int):Int:=ud (if wide then s.width else s.height) base
theorem eI(n l m:Int):PC0 197 [ai n,ai l,ai m] (.i (bro n l m)):=by
 refine ae (aK f197) ay func197 fun g F hg hF=> ?_
 cbv
 repeat'(first|(split<;>rename_i hh<;>(try rw [hh])<;>(try simp only [dD hg]at hh)<;>cbv))
 all_goals exact aU hF (by unfold bro;grind)
theorem eU(n l m:Int):PC0 221 [ai n,ai l,ai m] (.i (bro n l m)):=by
 refine ae (aK f221) ay func221 fun g F hg hF=> ?_
 cbv
 repeat'(first|(split<;>rename_i hh<;>(try rw [hh])<;>(try simp only [dD hg]at hh)<;>cbv))
 all_goals exact aU hF (by unfold bro;grind)
theorem bI(n l m:Int):PC0 120 [ai n,ai l,ai m] (.t (abl (decide (l<=n)&&decide (n<=m)))):=by
 refine ae (aK f120) ay func120 fun g F hg hF=> ?_
 cbv
 repeat'(first|(split<;>rename_i hh<;>(try rw [hh])<;>(try simp only [dD hg]at hh)<;>cbv))
 all_goals exact bk hF (by(try simp only [i8 hg,iU hg]);grind)
theorem de(n l m:Int):PC0 148 [ai n,ai l,ai m] (.t (abl (decide (l<=n)&&decide (n<=m)))):=by
 refine ae (aK f148) ay func148 fun g F hg hF=> ?_
 cbv
 repeat'(first|(split<;>rename_i hh<;>(try rw [hh])<;>(try simp only [dD hg]at hh)<;>cbv))
 all_goals exact bk hF (by(try simp only [i8 hg,iU hg]);grind)
theorem aO(n:Int):PC0 124 [ai n] (.i (cl n)):=by
 refine ae (aK f124) ay func124 fun g F hg hF=> ?_
 cbv
 repeat'(first|(refine bq hg (eI _ _ _) rfl (fun R0 ha=> ?_);cbv)|(split<;>rename_i hh<;>(try rw [hh])<;>(try simp only [dD hg]at hh)<;>cbv))
 all_goals exact aU hF (by subst_vars;rfl)
theorem aZ(n:Int):PC0 153 [ai n] (.i (cl n)):=by
 refine ae (aK f153) ay func153 fun g F hg hF=> ?_
 cbv
 repeat'(first|(refine bq hg (eU _ _ _) rfl (fun R0 ha=> ?_);cbv)|(split<;>rename_i hh<;>(try rw [hh])<;>(try simp only [dD hg]at hh)<;>cbv))
 all_goals exact aU hF (by subst_vars;rfl)
theorem bP(n:Int):PC0 207 [ai n] (.i (sg n)):=by
 refine ae (aK f207) ay func207 fun g F hg hF=> ?_
 cbv
 repeat'(first|(refine bq hg (eI _ _ _) rfl (fun R0 ha=> ?_);cbv)|(split<;>rename_i hh<;>(try rw [hh])<;>(try simp only [dD hg]at hh)<;>cbv))
 all_goals exact aU hF (by subst_vars;rfl)
theorem cY(n:Int):PC0 227 [ai n] (.i (sg n)):=by
 refine ae (aK f227) ay func227 fun g F hg hF=> ?_
 cbv
 repeat'(first|(refine bq hg (eU _ _ _) rfl (fun R0 ha=> ?_);cbv)|(split<;>rename_i hh<;>(try rw [hh])<;>(try simp only [dD hg]at hh)<;>cbv))
 all_goals exact aU hF (by subst_vars;rfl)
theorem qX(n:Int):PC0 262 [ai n] (.i (bro n (-1000000) 1000000)):=by
 refine ae (aK f262) ay func262 fun g F hg hF=> ?_
 cbv
 repeat'(first|(refine bq hg (eI _ _ _) rfl (fun R0 ha=> ?_);cbv)|(split<;>rename_i hh<;>(try rw [hh])<;>(try simp only [dD hg]at hh)<;>cbv))
 all_goals exact aU hF (by subst_vars;rfl)
theorem bJ(a b:Int):PC0 209 [ai a,ai b] (.i (fdv a b)):=by
 refine ae (aK f209) ay func209 fun g F hg hF=> ?_
 cbv
 by_cases hb:b<1
 ·have h0:g .q .lss b 1=true:=by rw [bg hg];simpa using hb
  rw [h0]
  cbv
  all_goals exact aU hF (by unfold fdv;rw [if_pos hb])
 ·have h0:g .q .lss b 1=false:=by rw [bg hg];simpa using hb
  rw [h0]
  cbv
  refine DA hg (by omega) ?_
  cbv
  refine DA hg (by omega) ?_
  cbv
  repeat'(first|(split<;>rename_i hh<;>(try rw [hh])<;>(try simp only [dD hg]at hh)<;>cbv))
  all_goals exact aU hF (by unfold fdv;simp only [xy hg,GY hg,dq hg]at *;grind)
theorem bK(a b:Int):PC0 191 [ai a,ai b] (.i (fdv a b)):=by
 refine ae (aK f191) ay func191 fun g F hg hF=> ?_
 cbv
 by_cases hb:b<1
 ·have h0:g .q .lss b 1=true:=by rw [bg hg];simpa using hb
  rw [h0]
  cbv
  all_goals exact aU hF (by unfold fdv;rw [if_pos hb])
 ·have h0:g .q .lss b 1=false:=by rw [bg hg];simpa using hb
  rw [h0]
  cbv
  refine DA hg (by omega) ?_
  cbv
  refine DA hg (by omega) ?_
  cbv
  repeat'(first|(split<;>rename_i hh<;>(try rw [hh])<;>(try simp only [dD hg]at hh)<;>cbv))
  all_goals exact aU hF (by unfold fdv;simp only [xy hg,GY hg,dq hg]at *;grind)
theorem fE(k n b:Int):PC0 206 [.agg [.J k,.J n],ai b] (.t (abl (kn ⟨k,n⟩ b))):=by
 refine ae (aK f206) ay func206 fun g F hg hF=> ?_
 cbv
 repeat'(first|(split<;>rename_i hh<;>(try rw [hh])<;>(try simp only [dD hg]at hh)<;>cbv))
 all_goals exact bk hF (by(try simp only [i8 hg,iU hg,bm hg]);simp only [kn];grind)
theorem fK(k n b:Int):PC0 225 [.agg [.J k,.J n],ai b] (.t (abl (kn ⟨k,n⟩ b))):=by
 refine ae (aK f225) ay func225 fun g F hg hF=> ?_
 cbv
 repeat'(first|(split<;>rename_i hh<;>(try rw [hh])<;>(try simp only [dD hg]at hh)<;>cbv))
 all_goals exact bk hF (by(try simp only [i8 hg,iU hg,bm hg]);simp only [kn];grind)
theorem fO(k n b:Int):PC0 208 [.agg [.J k,.J n],ai b] (.i (GO ⟨k,n⟩ b)):=by
 refine ae (aK f208) ay func208 fun g F hg hF=> ?_
 cbv
 repeat'(first|(refine bz hg (fE _ _ _) rfl (fun R0 ha=> ?_);cases R0<;>cbv)|((first|refine aV hg (aO _) rfl (fun R0 ha=> ?_)|refine aV hg (qX _) rfl (fun R0 ha=> ?_)|refine aV hg (bJ _ _) rfl (fun R0 ha=> ?_));cbv)|(split<;>rename_i hh<;>(try rw [hh])<;>(try simp only [dD hg]at hh)<;>cbv))
 all_goals exact aU hF (by(try simp only [gq hg]at *);simp only [GO];grind)
theorem fU(k n b:Int):PC0 226 [.agg [.J k,.J n],ai b] (.i (GO ⟨k,n⟩ b)):=by
 refine ae (aK f226) ay func226 fun g F hg hF=> ?_
 cbv
 repeat'(first|(refine bz hg (fK _ _ _) rfl (fun R0 ha=> ?_);cases R0<;>cbv)|((first|refine aV hg (aZ _) rfl (fun R0 ha=> ?_)|refine aV hg (eU _ _ _) rfl (fun R0 ha=> ?_)|refine aV hg (bK _ _) rfl (fun R0 ha=> ?_));cbv)|(split<;>rename_i hh<;>(try rw [hh])<;>(try simp only [dD hg]at hh)<;>cbv))
 all_goals exact aU hF (by(try simp only [gq hg]at *);simp only [GO];grind)
theorem ei(k n b:Int):PC0 138 [.agg [.J k,.J n],ai b] (.i (ud ⟨k,n⟩ b)):=by
 refine ae (aK f138) ay func138 fun g F hg hF=> ?_
 cbv
 repeat'(first|(refine bz hg (fE _ _ _) rfl (fun R0 ha=> ?_);cases R0<;>cbv)|((first|refine bq hg (aO _) rfl (fun R0 ha=> ?_)|refine bq hg (fO _ _ _) rfl (fun R0 ha=> ?_));cbv)|(split<;>rename_i hh<;>(try rw [hh])<;>(try simp only [dD hg]at hh)<;>cbv))
 all_goals exact aU hF (by simp only [ud];grind)
theorem ek(k n b:Int):PC0 164 [.agg [.J k,.J n],ai b] (.i (ud ⟨k,n⟩ b)):=by
 refine ae (aK f164) ay func164 fun g F hg hF=> ?_
 cbv
 repeat'(first|(refine bz hg (fK _ _ _) rfl (fun R0 ha=> ?_);cases R0<;>cbv)|((first|refine bq hg (aZ _) rfl (fun R0 ha=> ?_)|refine bq hg (fU _ _ _) rfl (fun R0 ha=> ?_));cbv)|(split<;>rename_i hh<;>(try rw [hh])<;>(try simp only [dD hg]at hh)<;>cbv))
 all_goals exact aU hF (by simp only [ud];grind)
theorem jP(n m:Int):PC0 137 [ai n,ai m] (.i (orl n m)):=by
 refine ae (aK f137) ay func137 fun g F hg hF=> ?_
 cbv
 repeat'(first|(split<;>rename_i hh<;>(try rw [hh])<;>(try simp only [dD hg]at hh)<;>cbv))
 all_goals exact aU hF (by simp only [orl];grind)
theorem oy(n m:Int):PC0 167 [ai n,ai m] (.i (orl n m)):=by
 refine ae (aK f167) ay func167 fun g F hg hF=> ?_
 cbv
 repeat'(first|(split<;>rename_i hh<;>(try rw [hh])<;>(try simp only [dD hg]at hh)<;>cbv))
 all_goals exact aU hF (by simp only [orl];grind)
abbrev agV(v:dy):AT:= .agg [.J v.kind,.J v.n]
abbrev agP(v:az):AT:= .agg [.J v.mode,.J v.n]
abbrev agE(e:bV):AT:= .agg [.J e.left,.J e.top,.J e.right,.J e.bottom]
theorem nB(s:bh)(sd:Int)(rtl:Bool):PC0 205 [.agg (lc (bh.c s)),ai sd,abl rtl] (.t (agV (rh s sd rtl))):=by
 obtain⟨⟨a0,a1⟩,⟨a2,a3⟩,⟨a4,a5⟩,⟨a6,a7⟩,⟨a8,a9⟩,⟨ha,hb⟩⟩:=s
 cases rtl<;>(refine ae (aK f205) ay func205 fun g F hg hF=> ?_;cbv;repeat'(first|(split<;>rename_i hh<;>(try rw [hh])<;>(try simp only [dD hg]at hh)<;>cbv)))
 all_goals exact np hF (by simp only [rh];grind)
theorem dQ(a b:Int):PC0 154 [ai a,ai b] (.i (adE a b)):=by
 refine ae (aK f154) ay func154 fun g F hg hF=> ?_
 cbv
 repeat'(first|(refine bq hg (aZ _) rfl (fun R0 ha=> ?_);cbv)|(split<;>rename_i hh<;>(try rw [hh])<;>(try simp only [dD hg]at hh)<;>cbv))
 all_goals exact aU hF (by(try simp only [aJ hg]at *);subst_vars;rfl)
theorem s4(a b:bV):PC0 198 [agE a,agE b] (.t (agE (JK a b))):=by
 obtain⟨a0,a1,a2,a3⟩:=a
 obtain⟨b0,b1,b2,b3⟩:=b
 refine ae (aK f198) ay func198 fun g F hg hF=> ?_
 cbv
 repeat'(first|(refine aV hg (aO _) rfl (fun R0 ha=> ?_);cbv)|(split<;>rename_i hh<;>(try rw [hh])<;>(try simp only [dD hg]at hh)<;>cbv))
 all_goals exact Ey hF (by(try simp only [aJ hg]at *);subst_vars;exact⟨rfl,rfl,rfl,rfl⟩)
theorem tP(a b:bV):PC0 155 [agE a,agE b] (.t (agE (JK a b))):=by
 obtain⟨a0,a1,a2,a3⟩:=a
 obtain⟨b0,b1,b2,b3⟩:=b
 refine ae (aK f155) ay func155 fun g F hg hF=> ?_
 cbv
 repeat'(first|(refine aV hg (dQ _ _) rfl (fun R0 ha=> ?_);cbv)|(split<;>rename_i hh<;>(try rw [hh])<;>(try simp only [dD hg]at hh)<;>cbv))
 all_goals exact Ey hF (by subst_vars;exact⟨rfl,rfl,rfl,rfl⟩)
theorem ix(l t r b:Int):PC0 125 [agE ⟨l,t,r,b⟩] (.i (adE l r)):=by
 refine ae (aK f125) ay func125 fun g F hg hF=> ?_
 cbv
 repeat'(first|(refine aV hg (aO _) rfl (fun R0 ha=> ?_);cbv)|(split<;>rename_i hh<;>(try rw [hh])<;>(try simp only [dD hg]at hh)<;>cbv))
 all_goals exact aU hF (by(try simp only [aJ hg]at *);subst_vars;rfl)
theorem iz(l t r b:Int):PC0 127 [agE ⟨l,t,r,b⟩] (.i (adE t b)):=by
 refine ae (aK f127) ay func127 fun g F hg hF=> ?_
 cbv
 repeat'(first|(refine aV hg (aO _) rfl (fun R0 ha=> ?_);cbv)|(split<;>rename_i hh<;>(try rw [hh])<;>(try simp only [dD hg]at hh)<;>cbv))
 all_goals exact aU hF (by(try simp only [aJ hg]at *);subst_vars;rfl)
theorem fT(l t r b:Int):PC0 79 [agE ⟨l,t,r,b⟩] (.i (adE l r)):=by
 refine ae (aK f79) ay func79 fun g F hg hF=> ?_
 cbv
 repeat'(first|(refine bq hg (dQ _ _) rfl (fun R0 ha=> ?_);cbv)|(split<;>rename_i hh<;>(try rw [hh])<;>(try simp only [dD hg]at hh)<;>cbv))
 all_goals exact aU hF (by subst_vars;rfl)
theorem fV(l t r b:Int):PC0 81 [agE ⟨l,t,r,b⟩] (.i (adE t b)):=by
 refine ae (aK f81) ay func81 fun g F hg hF=> ?_
 cbv
 repeat'(first|(refine bq hg (dQ _ _) rfl (fun R0 ha=> ?_);cbv)|(split<;>rename_i hh<;>(try rw [hh])<;>(try simp only [dD hg]at hh)<;>cbv))
 all_goals exact aU hF (by subst_vars;rfl)
theorem gB(s:ak):PC0 126 [.agg (lc (ak.c s))] (.t (agE (oE s))):=by
 obtain⟨a0,a1,a2,a3,a4,a5,a6,a7,a8,a9,hj,⟨hk,hl⟩,⟨hm,hn⟩,⟨ho,hp⟩,⟨hq,hr⟩,⟨hs,ht⟩,⟨hu,hv⟩,⟨hw,hx⟩,hy,⟨⟨hz,hA⟩,⟨hB,hC⟩,⟨hD,hE⟩,⟨hG,hH⟩,⟨hI,hJ⟩,⟨hK,hL⟩⟩,⟨⟨hM,hN⟩,⟨hO,hP⟩,⟨hQ,hR⟩,⟨hS,hT⟩,⟨hU,hV⟩,⟨hW,hX⟩⟩,⟨ha,hb,hc,hd⟩,⟨he,hf,hh,hi⟩,hY,hZ⟩:=s
 refine ae (aK f126) ay func126 fun g F hg hF=> ?_
 cbv
 refine EP hg (s4 ⟨ha,hb,hc,hd⟩ ⟨he,hf,hh,hi⟩) rfl (fun R0 R1 R2 R3 h0 h1 h2 h3=> ?_)
 cbv
 all_goals exact Ey hF (by subst_vars;exact⟨rfl,rfl,rfl,rfl⟩)
theorem fw(s:ak):PC0 80 [.agg (lc (ak.c s))] (.t (agE (oE s))):=by
 obtain⟨a0,a1,a2,a3,a4,a5,a6,a7,a8,a9,hj,⟨hk,hl⟩,⟨hm,hn⟩,⟨ho,hp⟩,⟨hq,hr⟩,⟨hs,ht⟩,⟨hu,hv⟩,⟨hw,hx⟩,hy,⟨⟨hz,hA⟩,⟨hB,hC⟩,⟨hD,hE⟩,⟨hG,hH⟩,⟨hI,hJ⟩,⟨hK,hL⟩⟩,⟨⟨hM,hN⟩,⟨hO,hP⟩,⟨hQ,hR⟩,⟨hS,hT⟩,⟨hU,hV⟩,⟨hW,hX⟩⟩,⟨ha,hb,hc,hd⟩,⟨he,hf,hh,hi⟩,hY,hZ⟩:=s
 refine ae (aK f80) ay func80 fun g F hg hF=> ?_
 cbv
 refine EP hg (tP ⟨ha,hb,hc,hd⟩ ⟨he,hf,hh,hi⟩) rfl (fun R0 R1 R2 R3 h0 h1 h2 h3=> ?_)
 cbv
 all_goals exact Ey hF (by subst_vars;exact⟨rfl,rfl,rfl,rfl⟩)
theorem ii(s:ak)(w:Bool):PC0 61 [.agg (lc (ak.c s)),abl w] (.i (uA s w)):=by
 cases w<;>(refine ae (aK f61) ay func61 fun g F hg hF=> ?_;cbv;repeat'(first|((first|refine EP hg (gB s) rfl (fun R0 R1 R2 R3 ha hb hc hd=> ?_)|refine bq hg (ix _ _ _ _) rfl (fun R0 ha=> ?_)|refine bq hg (iz _ _ _ _) rfl (fun R0 ha=> ?_));cbv)|(split<;>rename_i hh<;>(try rw [hh])<;>(try simp only [dD hg]at hh)<;>cbv)))
 all_goals exact aU hF (by subst_vars;rfl)
theorem kI(s:ak)(w:Bool):PC0 166 [.agg (lc (ak.c s)),abl w] (.i (uA s w)):=by
 cases w<;>(refine ae (aK f166) ay func166 fun g F hg hF=> ?_;cbv;repeat'(first|((first|refine EP hg (fw s) rfl (fun R0 R1 R2 R3 ha hb hc hd=> ?_)|refine bq hg (fT _ _ _ _) rfl (fun R0 ha=> ?_)|refine bq hg (fV _ _ _ _) rfl (fun R0 ha=> ?_));cbv)|(split<;>rename_i hh<;>(try rw [hh])<;>(try simp only [dD hg]at hh)<;>cbv)))
 all_goals exact aU hF (by subst_vars;rfl)
theorem eG(w:Bool)(a b c d:Int):PC0 143 [abl w,.agg [.J a,.J b],.agg [.J c,.J d]] (.t (agV (if w then⟨a,b⟩else⟨c,d⟩))):=by
 cases w<;>(refine ae (aK f143) ay func143 fun g F hg hF=> ?_;cbv;repeat'(first|(split<;>rename_i hh<;>(try rw [hh])<;>(try simp only [dD hg]at hh)<;>cbv)))
 all_goals exact np hF (by exact⟨rfl,rfl⟩)
theorem gk(w:Bool)(a b c d:Int):PC0 168 [abl w,.agg [.J a,.J b],.agg [.J c,.J d]] (.t (agV (if w then⟨a,b⟩else⟨c,d⟩))):=by
 cases w<;>(refine ae (aK f168) ay func168 fun g F hg hF=> ?_;cbv;repeat'(first|(split<;>rename_i hh<;>(try rw [hh])<;>(try simp only [dD hg]at hh)<;>cbv)))
 all_goals exact np hF (by exact⟨rfl,rfl⟩)
theorem jp(s:ak)(w:Bool)(b:Int):PC0 69 [.agg (lc (ak.c s)),abl w,ai b] (.i (Cz s w b)):=by
 obtain⟨a0,a1,a2,a3,a4,a5,a6,a7,a8,a9,hc,⟨hd,he⟩,⟨hf,hi⟩,⟨hj,hk⟩,⟨hl,hm⟩,⟨hn,ho⟩,⟨hp,hq⟩,⟨hr,hs⟩,ht,⟨⟨hu,hv⟩,⟨hw,hx⟩,⟨hy,hz⟩,⟨hA,hB⟩,⟨hC,hD⟩,⟨hE,hG⟩⟩,⟨⟨hH,hI⟩,⟨hJ,hK⟩,⟨hL,hM⟩,⟨hN,hO⟩,⟨hP,hQ⟩,⟨hR,hS⟩⟩,⟨hT,hU,hV,hW⟩,⟨hX,hY,hZ,h0⟩,h1,h2⟩:=s
 have hb:=ii (⟨a0,a1,a2,a3,a4,a5,a6,a7,a8,a9,hc,⟨hd,he⟩,⟨hf,hi⟩,⟨hj,hk⟩,⟨hl,hm⟩,⟨hn,ho⟩,⟨hp,hq⟩,⟨hr,hs⟩,ht,⟨⟨hu,hv⟩,⟨hw,hx⟩,⟨hy,hz⟩,⟨hA,hB⟩,⟨hC,hD⟩,⟨hE,hG⟩⟩,⟨⟨hH,hI⟩,⟨hJ,hK⟩,⟨hL,hM⟩,⟨hN,hO⟩,⟨hP,hQ⟩,⟨hR,hS⟩⟩,⟨hT,hU,hV,hW⟩,⟨hX,hY,hZ,h0⟩,h1,h2⟩:ak)
 cases w<;>(refine ae (aK f69) ay func69 fun g F hg hF=> ?_;cbv;repeat'(first|((first|refine tW hg (eG _ _ _ _ _) rfl (fun R0 R1 ha h3=> ?_)|refine bq hg (ei _ _ _) rfl (fun R0 ha=> ?_)|refine bq hg (jP _ _) rfl (fun R0 ha=> ?_)|refine bq hg (hb _) rfl (fun R0 ha=> ?_));cbv)|(split<;>rename_i hh<;>(try rw [hh])<;>(try simp only [dD hg]at hh)<;>cbv)))
 all_goals exact aU hF (by simp only [Cz];subst_vars;first|rfl|(split<;>first|rfl|contradiction|omega)|grind)
theorem jx(s:ak)(w:Bool)(b:Int):PC0 91 [.agg (lc (ak.c s)),abl w,ai b] (.i (Cz s w b)):=by
 cases w<;>(refine ae (aK f91) ay func91 fun g F hg hF=> ?_;cbv;repeat'(first|((first|refine mX hg (gk _ _ _ _ _) rfl (fun R0 R1 ha hb=> ?_)|refine aV hg (ek _ _ _) rfl (fun R0 ha=> ?_)|refine aV hg (oy _ _) rfl (fun R0 ha=> ?_)|refine aV hg (kI s _) rfl (fun R0 ha=> ?_));cbv)|(split<;>rename_i hh<;>(try rw [hh])<;>(try simp only [dD hg]at hh)<;>cbv)))
 all_goals exact aU hF (by simp only [Cz,FL hg];subst_vars;first|rfl|(split<;>first|rfl|contradiction|omega)|grind)
theorem jQ(s:ak)(w:Bool)(b:Int):PC0 70 [.agg (lc (ak.c s)),abl w,ai b] (.i (Dy s w b)):=by
 cases w<;>(refine ae (aK f70) ay func70 fun g F hg hF=> ?_;cbv;repeat'(first|((first|refine tW hg (eG _ _ _ _ _) rfl (fun R0 R1 ha hb=> ?_)|refine bq hg (ei _ _ _) rfl (fun R0 ha=> ?_));cbv)|(split<;>rename_i hh<;>(try rw [hh])<;>(try simp only [dD hg]at hh)<;>cbv)))
 all_goals exact aU hF (by subst_vars;rfl)
theorem j9(s:ak)(w:Bool)(b:Int):PC0 92 [.agg (lc (ak.c s)),abl w,ai b] (.i (Dy s w b)):=by
 cases w<;>(refine ae (aK f92) ay func92 fun g F hg hF=> ?_;cbv;repeat'(first|((first|refine tW hg (gk _ _ _ _ _) rfl (fun R0 R1 ha hb=> ?_)|refine bq hg (ek _ _ _) rfl (fun R0 ha=> ?_));cbv)|(split<;>rename_i hh<;>(try rw [hh])<;>(try simp only [dD hg]at hh)<;>cbv)))
 all_goals exact aU hF (by subst_vars;rfl)
theorem gC(s:ak)(w:Bool)(b:Int):PC0 139 [.agg (lc (ak.c s)),abl w,ai b] (.i (sq s w b)):=by
 cases w<;>(refine ae (aK f139) ay func139 fun g F hg hF=> ?_;cbv;repeat'(first|((first|refine tW hg (eG _ _ _ _ _) rfl (fun R0 R1 ha hb=> ?_)|refine bq hg (ei _ _ _) rfl (fun R0 ha=> ?_));cbv)|(split<;>rename_i hh<;>(try rw [hh])<;>(try simp only [dD hg]at hh)<;>cbv)))
 all_goals exact aU hF (by subst_vars;rfl)
theorem gO(s:ak)(w:Bool)(b:Int):PC0 111 [.agg (lc (ak.c s)),abl w,ai b] (.i (sq s w b)):=by
 cases w<;>(refine ae (aK f111) ay func111 fun g F hg hF=> ?_;cbv;repeat'(first|((first|refine tW hg (gk _ _ _ _ _) rfl (fun R0 R1 ha hb=> ?_)|refine bq hg (ek _ _ _) rfl (fun R0 ha=> ?_));cbv)|(split<;>rename_i hh<;>(try rw [hh])<;>(try simp only [dD hg]at hh)<;>cbv)))
 all_goals exact aU hF (by subst_vars;rfl)
theorem fo(s:ak)(w:Bool)(b n:Int):PC0 104 [.agg (lc (ak.c s)),abl w,ai b,ai n] (.i (qa s w b n)):=by
 refine ae (aK f104) ay func104 fun g F hg hF=> ?_
 cbv
 repeat'(first|((first|refine aV hg (jp s _ _) rfl (fun R0 ha=> ?_)|refine aV hg (jQ s _ _) rfl (fun R0 ha=> ?_)|refine aV hg (jO _ _ _) rfl (fun R0 ha=> ?_)|refine aV hg (aO _) rfl (fun R0 ha=> ?_));cbv)|(split<;>rename_i hh<;>(try rw [hh])<;>(try simp only [dD hg]at hh)<;>cbv))
 all_goals exact aU hF (by subst_vars;rfl)
theorem gQ(s:ak)(w:Bool)(b n:Int):PC0 113 [.agg (lc (ak.c s)),abl w,ai b,ai n] (.i (qa s w b n)):=by
 refine ae (aK f113) ay func113 fun g F hg hF=> ?_
 cbv
 repeat'(first|((first|refine aV hg (jx s _ _) rfl (fun R0 ha=> ?_)|refine aV hg (j9 s _ _) rfl (fun R0 ha=> ?_)|refine aV hg (j7 _ _ _) rfl (fun R0 ha=> ?_)|refine aV hg (aZ _) rfl (fun R0 ha=> ?_));cbv)|(split<;>rename_i hh<;>(try rw [hh])<;>(try simp only [dD hg]at hh)<;>cbv))
 all_goals exact aU hF (by subst_vars;rfl)
variable {F:Nat->Prop}
theorem Dk{w:World}:∀(j:Nat)(x:AT),([]:List AT)[j]? =some x->∃v,([]:List Value)[j]? =some v/\RT F w [] [] x v:=fun j x h=>by simp at h
theorem jL{w:World}{x:AT}{v:Value}{xs:List AT}{vs:List Value}(h1:RT F w [] [] x v)(h2:∀(j:Nat)(x:AT),xs[j]? =some x->∃v,vs[j]? =some v/\RT F w [] [] x v):
  ∀(j:Nat)(y:AT),(x::xs)[j]? =some y->∃u,(v::vs)[j]? =some u/\RT F w [] [] y u:=fun j y h=>by
 cases j with
 |zero=>simp only [zqw,zqy]at h;subst h;exact⟨v,rfl,h1⟩
 |succ j=>exact h2 j y (by simpa using h)
theorem jv(n:Int):PC0 112 [ai n] (.t (.agg [.J 3,.J n])):=by
 refine ae (aK f112) ay func112 fun g F hg hF=> ?_
 cbv
 all_goals exact np hF (by exact⟨rfl,rfl⟩)
end Go.Proofs.YtkicjdeddpihaaaGreat
