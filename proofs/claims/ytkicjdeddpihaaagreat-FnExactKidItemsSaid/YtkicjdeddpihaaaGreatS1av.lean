/- Boxes without their edges, spaces of a root, frames in bounds. -/
import Derived.Test.YtkicjdeddpihaaaGreatS1au
set_option linter.unusedVariables false
set_option linter.unusedSimpArgs false
set_option maxHeartbeats 4000000
namespace Go.Proofs.YtkicjdeddpihaaaGreat
open Go.ChangeShapes Go.WideShapes Go.ChangeAt Go.RowKit Am Go.Proofs.Tryz
set_option maxRecDepth 100000
def bro(n l m:Int):Int:=if m<l\/n<l then l else if m<n then m else n
def cl(n:Int):Int:=bro n 0 1048576
def sg(n:Int):Int:=bro n (-1048576) 1048576
def fdv(a b:Int):Int:=if b<1 then 0 else if a.tmod b<0 then wrap64 (wrap64 (a.tdiv b)-1)else wrap64 (a.tdiv b)
def kn(v:dx)(base:Int):Bool:=decide (v.kind=1)||(decide (v.kind=2)&&decide (0<=base))
def GU(v:dx)(base:Int):Int:=if kn v base=false then-1 else if v.kind=1 then v.n else fdv (wrap64 (cl base*bro v.n (-1000000) 1000000)) 100
def tW(v:dx)(base:Int):Int:=if kn v base=false then-1 else cl (GU v base)
def orl(n m:Int):Int:=if n= -1 then m else n
def qX(s:bi)(sd:Int)(rtl:Bool):dx:=
 if sd=1 then s.top else if sd=3 then s.bottom
 else if sd=0 then(if(if rtl then s.fin else s.start).kind≠0 then(if rtl then s.fin else s.start)else s.left)
 else if sd=2 then(if(if rtl then s.start else s.fin).kind≠0 then(if rtl then s.start else s.fin)else s.right)else⟨0,0⟩
def adE(a b:Int):Int:=cl (wrap64 (cl a+cl b))
def JI(a b:bU):bU:=⟨adE a.left b.left,adE a.top b.top,adE a.right b.right,adE a.bottom b.bottom⟩
def ow(s:ak):bU:=JI s.pad s.border
def ut(s:ak)(wide:Bool):Int:=if wide then adE (ow s).left (ow s).right else adE (ow s).top (ow s).bottom
def Cu(s:ak)(wide:Bool)(base:Int):Int:=if ut s wide<orl (tW (if wide then s.minWidth else s.minHeight) base) 0 then orl (tW (if wide then s.minWidth else s.minHeight) base) 0 else ut s wide
def Dv(s:ak)(wide:Bool)(base:Int):Int:=tW (if wide then s.maxWidth else s.maxHeight) base
def pI(s:ak)(wide:Bool)(base n:Int):Int:=cl (iq n (Cu s wide base) (Dv s wide base))
def sa(s:ak)(wide:Bool)(base:Int):Int:=tW (if wide then s.width else s.height) base
theorem eI(n l m:Int):PC0 197 [ai n,ai l,ai m] (.i (bro n l m)):=by
 refine ae (aK f197) ay func197 fun g F hg hF=> ?_
 cbv
 repeat'(first|(split<;>rename_i hh<;>(try rw [hh])<;>(try simp only [dB hg]at hh)<;>cbv))
 all_goals exact aU hF (by unfold bro;grind)
theorem eU(n l m:Int):PC0 221 [ai n,ai l,ai m] (.i (bro n l m)):=by
 refine ae (aK f221) ay func221 fun g F hg hF=> ?_
 cbv
 repeat'(first|(split<;>rename_i hh<;>(try rw [hh])<;>(try simp only [dB hg]at hh)<;>cbv))
 all_goals exact aU hF (by unfold bro;grind)
theorem bI(n l m:Int):PC0 120 [ai n,ai l,ai m] (.t (abl (decide (l<=n)&&decide (n<=m)))):=by
 refine ae (aK f120) ay func120 fun g F hg hF=> ?_
 cbv
 repeat'(first|(split<;>rename_i hh<;>(try rw [hh])<;>(try simp only [dB hg]at hh)<;>cbv))
 all_goals exact bk hF (by(try simp only [iY hg,iR hg]);grind)
theorem dd(n l m:Int):PC0 148 [ai n,ai l,ai m] (.t (abl (decide (l<=n)&&decide (n<=m)))):=by
 refine ae (aK f148) ay func148 fun g F hg hF=> ?_
 cbv
 repeat'(first|(split<;>rename_i hh<;>(try rw [hh])<;>(try simp only [dB hg]at hh)<;>cbv))
 all_goals exact bk hF (by(try simp only [iY hg,iR hg]);grind)
theorem aO(n:Int):PC0 124 [ai n] (.i (cl n)):=by
 refine ae (aK f124) ay func124 fun g F hg hF=> ?_
 cbv
 repeat'(first|(refine bn hg (eI _ _ _) rfl (fun R0 ha=> ?_);cbv)|(split<;>rename_i hh<;>(try rw [hh])<;>(try simp only [dB hg]at hh)<;>cbv))
 all_goals exact aU hF (by subst_vars;rfl)
theorem aZ(n:Int):PC0 153 [ai n] (.i (cl n)):=by
 refine ae (aK f153) ay func153 fun g F hg hF=> ?_
 cbv
 repeat'(first|(refine bn hg (eU _ _ _) rfl (fun R0 ha=> ?_);cbv)|(split<;>rename_i hh<;>(try rw [hh])<;>(try simp only [dB hg]at hh)<;>cbv))
 all_goals exact aU hF (by subst_vars;rfl)
theorem bP(n:Int):PC0 207 [ai n] (.i (sg n)):=by
 refine ae (aK f207) ay func207 fun g F hg hF=> ?_
 cbv
 repeat'(first|(refine bn hg (eI _ _ _) rfl (fun R0 ha=> ?_);cbv)|(split<;>rename_i hh<;>(try rw [hh])<;>(try simp only [dB hg]at hh)<;>cbv))
 all_goals exact aU hF (by subst_vars;rfl)
theorem bZ(n:Int):PC0 227 [ai n] (.i (sg n)):=by
 refine ae (aK f227) ay func227 fun g F hg hF=> ?_
 cbv
 repeat'(first|(refine bn hg (eU _ _ _) rfl (fun R0 ha=> ?_);cbv)|(split<;>rename_i hh<;>(try rw [hh])<;>(try simp only [dB hg]at hh)<;>cbv))
 all_goals exact aU hF (by subst_vars;rfl)
theorem qQ(n:Int):PC0 262 [ai n] (.i (bro n (-1000000) 1000000)):=by
 refine ae (aK f262) ay func262 fun g F hg hF=> ?_
 cbv
 repeat'(first|(refine bn hg (eI _ _ _) rfl (fun R0 ha=> ?_);cbv)|(split<;>rename_i hh<;>(try rw [hh])<;>(try simp only [dB hg]at hh)<;>cbv))
 all_goals exact aU hF (by subst_vars;rfl)
theorem bJ(a b:Int):PC0 209 [ai a,ai b] (.i (fdv a b)):=by
 refine ae (aK f209) ay func209 fun g F hg hF=> ?_
 cbv
 by_cases hb:b<1
 ·have h0:g .q .lss b 1=true:=by rw [bg hg];simpa using hb
  rw [h0]
  cbv
  all_goals exact aU hF (by unfold fdv;rw [if_pos hb])
 ·have h0:g .q .lss b 1=false:=by rw [bg hg];simpa using hb
  rw [h0]
  cbv
  refine Dy hg (by omega) ?_
  cbv
  refine Dy hg (by omega) ?_
  cbv
  repeat'(first|(split<;>rename_i hh<;>(try rw [hh])<;>(try simp only [dB hg]at hh)<;>cbv))
  all_goals exact aU hF (by unfold fdv;simp only [xr hg,G5 hg,dm hg]at *;grind)
theorem bK(a b:Int):PC0 191 [ai a,ai b] (.i (fdv a b)):=by
 refine ae (aK f191) ay func191 fun g F hg hF=> ?_
 cbv
 by_cases hb:b<1
 ·have h0:g .q .lss b 1=true:=by rw [bg hg];simpa using hb
  rw [h0]
  cbv
  all_goals exact aU hF (by unfold fdv;rw [if_pos hb])
 ·have h0:g .q .lss b 1=false:=by rw [bg hg];simpa using hb
  rw [h0]
  cbv
  refine Dy hg (by omega) ?_
  cbv
  refine Dy hg (by omega) ?_
  cbv
  repeat'(first|(split<;>rename_i hh<;>(try rw [hh])<;>(try simp only [dB hg]at hh)<;>cbv))
  all_goals exact aU hF (by unfold fdv;simp only [xr hg,G5 hg,dm hg]at *;grind)
theorem fB(k n b:Int):PC0 206 [.agg [.J k,.J n],ai b] (.t (abl (kn ⟨k,n⟩ b))):=by
 refine ae (aK f206) ay func206 fun g F hg hF=> ?_
 cbv
 repeat'(first|(split<;>rename_i hh<;>(try rw [hh])<;>(try simp only [dB hg]at hh)<;>cbv))
 all_goals exact bk hF (by(try simp only [iY hg,iR hg,bm hg]);simp only [kn];grind)
theorem fH(k n b:Int):PC0 225 [.agg [.J k,.J n],ai b] (.t (abl (kn ⟨k,n⟩ b))):=by
 refine ae (aK f225) ay func225 fun g F hg hF=> ?_
 cbv
 repeat'(first|(split<;>rename_i hh<;>(try rw [hh])<;>(try simp only [dB hg]at hh)<;>cbv))
 all_goals exact bk hF (by(try simp only [iY hg,iR hg,bm hg]);simp only [kn];grind)
theorem fL(k n b:Int):PC0 208 [.agg [.J k,.J n],ai b] (.i (GU ⟨k,n⟩ b)):=by
 refine ae (aK f208) ay func208 fun g F hg hF=> ?_
 cbv
 repeat'(first|(refine bz hg (fB _ _ _) rfl (fun R0 ha=> ?_);cases R0<;>cbv)|((first|refine aV hg (aO _) rfl (fun R0 ha=> ?_)|refine aV hg (qQ _) rfl (fun R0 ha=> ?_)|refine aV hg (bJ _ _) rfl (fun R0 ha=> ?_));cbv)|(split<;>rename_i hh<;>(try rw [hh])<;>(try simp only [dB hg]at hh)<;>cbv))
 all_goals exact aU hF (by(try simp only [gq hg]at *);simp only [GU];grind)
theorem fT(k n b:Int):PC0 226 [.agg [.J k,.J n],ai b] (.i (GU ⟨k,n⟩ b)):=by
 refine ae (aK f226) ay func226 fun g F hg hF=> ?_
 cbv
 repeat'(first|(refine bz hg (fH _ _ _) rfl (fun R0 ha=> ?_);cases R0<;>cbv)|((first|refine aV hg (aZ _) rfl (fun R0 ha=> ?_)|refine aV hg (eU _ _ _) rfl (fun R0 ha=> ?_)|refine aV hg (bK _ _) rfl (fun R0 ha=> ?_));cbv)|(split<;>rename_i hh<;>(try rw [hh])<;>(try simp only [dB hg]at hh)<;>cbv))
 all_goals exact aU hF (by(try simp only [gq hg]at *);simp only [GU];grind)
theorem ei(k n b:Int):PC0 138 [.agg [.J k,.J n],ai b] (.i (tW ⟨k,n⟩ b)):=by
 refine ae (aK f138) ay func138 fun g F hg hF=> ?_
 cbv
 repeat'(first|(refine bz hg (fB _ _ _) rfl (fun R0 ha=> ?_);cases R0<;>cbv)|((first|refine bn hg (aO _) rfl (fun R0 ha=> ?_)|refine bn hg (fL _ _ _) rfl (fun R0 ha=> ?_));cbv)|(split<;>rename_i hh<;>(try rw [hh])<;>(try simp only [dB hg]at hh)<;>cbv))
 all_goals exact aU hF (by simp only [tW];grind)
theorem ek(k n b:Int):PC0 164 [.agg [.J k,.J n],ai b] (.i (tW ⟨k,n⟩ b)):=by
 refine ae (aK f164) ay func164 fun g F hg hF=> ?_
 cbv
 repeat'(first|(refine bz hg (fH _ _ _) rfl (fun R0 ha=> ?_);cases R0<;>cbv)|((first|refine bn hg (aZ _) rfl (fun R0 ha=> ?_)|refine bn hg (fT _ _ _) rfl (fun R0 ha=> ?_));cbv)|(split<;>rename_i hh<;>(try rw [hh])<;>(try simp only [dB hg]at hh)<;>cbv))
 all_goals exact aU hF (by simp only [tW];grind)
theorem jN(n m:Int):PC0 137 [ai n,ai m] (.i (orl n m)):=by
 refine ae (aK f137) ay func137 fun g F hg hF=> ?_
 cbv
 repeat'(first|(split<;>rename_i hh<;>(try rw [hh])<;>(try simp only [dB hg]at hh)<;>cbv))
 all_goals exact aU hF (by simp only [orl];grind)
theorem ol(n m:Int):PC0 167 [ai n,ai m] (.i (orl n m)):=by
 refine ae (aK f167) ay func167 fun g F hg hF=> ?_
 cbv
 repeat'(first|(split<;>rename_i hh<;>(try rw [hh])<;>(try simp only [dB hg]at hh)<;>cbv))
 all_goals exact aU hF (by simp only [orl];grind)
abbrev agV(v:dx):AT:= .agg [.J v.kind,.J v.n]
abbrev agP(v:az):AT:= .agg [.J v.mode,.J v.n]
abbrev agE(e:bU):AT:= .agg [.J e.left,.J e.top,.J e.right,.J e.bottom]
theorem nw(s:bi)(sd:Int)(rtl:Bool):PC0 205 [.agg (lc (bi.c s)),ai sd,abl rtl] (.t (agV (qX s sd rtl))):=by
 obtain⟨⟨a0,a1⟩,⟨a2,a3⟩,⟨a4,a5⟩,⟨a6,a7⟩,⟨a8,a9⟩,⟨ha,hb⟩⟩:=s
 cases rtl<;>(refine ae (aK f205) ay func205 fun g F hg hF=> ?_;cbv;repeat'(first|(split<;>rename_i hh<;>(try rw [hh])<;>(try simp only [dB hg]at hh)<;>cbv)))
 all_goals exact nf hF (by simp only [qX];grind)
theorem dN(a b:Int):PC0 154 [ai a,ai b] (.i (adE a b)):=by
 refine ae (aK f154) ay func154 fun g F hg hF=> ?_
 cbv
 repeat'(first|(refine bn hg (aZ _) rfl (fun R0 ha=> ?_);cbv)|(split<;>rename_i hh<;>(try rw [hh])<;>(try simp only [dB hg]at hh)<;>cbv))
 all_goals exact aU hF (by(try simp only [aJ hg]at *);subst_vars;rfl)
theorem sT(a b:bU):PC0 198 [agE a,agE b] (.t (agE (JI a b))):=by
 obtain⟨a0,a1,a2,a3⟩:=a
 obtain⟨b0,b1,b2,b3⟩:=b
 refine ae (aK f198) ay func198 fun g F hg hF=> ?_
 cbv
 repeat'(first|(refine aV hg (aO _) rfl (fun R0 ha=> ?_);cbv)|(split<;>rename_i hh<;>(try rw [hh])<;>(try simp only [dB hg]at hh)<;>cbv))
 all_goals exact Ex hF (by(try simp only [aJ hg]at *);subst_vars;exact⟨rfl,rfl,rfl,rfl⟩)
theorem tF(a b:bU):PC0 155 [agE a,agE b] (.t (agE (JI a b))):=by
 obtain⟨a0,a1,a2,a3⟩:=a
 obtain⟨b0,b1,b2,b3⟩:=b
 refine ae (aK f155) ay func155 fun g F hg hF=> ?_
 cbv
 repeat'(first|(refine aV hg (dN _ _) rfl (fun R0 ha=> ?_);cbv)|(split<;>rename_i hh<;>(try rw [hh])<;>(try simp only [dB hg]at hh)<;>cbv))
 all_goals exact Ex hF (by subst_vars;exact⟨rfl,rfl,rfl,rfl⟩)
theorem ir(l t r b:Int):PC0 125 [agE ⟨l,t,r,b⟩] (.i (adE l r)):=by
 refine ae (aK f125) ay func125 fun g F hg hF=> ?_
 cbv
 repeat'(first|(refine aV hg (aO _) rfl (fun R0 ha=> ?_);cbv)|(split<;>rename_i hh<;>(try rw [hh])<;>(try simp only [dB hg]at hh)<;>cbv))
 all_goals exact aU hF (by(try simp only [aJ hg]at *);subst_vars;rfl)
theorem iv(l t r b:Int):PC0 127 [agE ⟨l,t,r,b⟩] (.i (adE t b)):=by
 refine ae (aK f127) ay func127 fun g F hg hF=> ?_
 cbv
 repeat'(first|(refine aV hg (aO _) rfl (fun R0 ha=> ?_);cbv)|(split<;>rename_i hh<;>(try rw [hh])<;>(try simp only [dB hg]at hh)<;>cbv))
 all_goals exact aU hF (by(try simp only [aJ hg]at *);subst_vars;rfl)
theorem fS(l t r b:Int):PC0 79 [agE ⟨l,t,r,b⟩] (.i (adE l r)):=by
 refine ae (aK f79) ay func79 fun g F hg hF=> ?_
 cbv
 repeat'(first|(refine bn hg (dN _ _) rfl (fun R0 ha=> ?_);cbv)|(split<;>rename_i hh<;>(try rw [hh])<;>(try simp only [dB hg]at hh)<;>cbv))
 all_goals exact aU hF (by subst_vars;rfl)
theorem fU(l t r b:Int):PC0 81 [agE ⟨l,t,r,b⟩] (.i (adE t b)):=by
 refine ae (aK f81) ay func81 fun g F hg hF=> ?_
 cbv
 repeat'(first|(refine bn hg (dN _ _) rfl (fun R0 ha=> ?_);cbv)|(split<;>rename_i hh<;>(try rw [hh])<;>(try simp only [dB hg]at hh)<;>cbv))
 all_goals exact aU hF (by subst_vars;rfl)
theorem gA(s:ak):PC0 126 [.agg (lc (ak.c s))] (.t (agE (ow s))):=by
 obtain⟨a0,a1,a2,a3,a4,a5,a6,a7,a8,a9,hj,⟨hk,hl⟩,⟨hm,hn⟩,⟨ho,hp⟩,⟨hq,hr⟩,⟨hs,ht⟩,⟨hu,hv⟩,⟨hw,hx⟩,hy,⟨⟨hz,hA⟩,⟨hB,hC⟩,⟨hD,hE⟩,⟨hG,hH⟩,⟨hI,hJ⟩,⟨hK,hL⟩⟩,⟨⟨hM,hN⟩,⟨hO,hP⟩,⟨hQ,hR⟩,⟨hS,hT⟩,⟨hU,hV⟩,⟨hW,hX⟩⟩,⟨ha,hb,hc,hd⟩,⟨he,hf,hh,hi⟩,hY,hZ⟩:=s
 refine ae (aK f126) ay func126 fun g F hg hF=> ?_
 cbv
 refine EO hg (sT ⟨ha,hb,hc,hd⟩ ⟨he,hf,hh,hi⟩) rfl (fun R0 R1 R2 R3 h0 h1 h2 h3=> ?_)
 cbv
 all_goals exact Ex hF (by subst_vars;exact⟨rfl,rfl,rfl,rfl⟩)
theorem fu(s:ak):PC0 80 [.agg (lc (ak.c s))] (.t (agE (ow s))):=by
 obtain⟨a0,a1,a2,a3,a4,a5,a6,a7,a8,a9,hj,⟨hk,hl⟩,⟨hm,hn⟩,⟨ho,hp⟩,⟨hq,hr⟩,⟨hs,ht⟩,⟨hu,hv⟩,⟨hw,hx⟩,hy,⟨⟨hz,hA⟩,⟨hB,hC⟩,⟨hD,hE⟩,⟨hG,hH⟩,⟨hI,hJ⟩,⟨hK,hL⟩⟩,⟨⟨hM,hN⟩,⟨hO,hP⟩,⟨hQ,hR⟩,⟨hS,hT⟩,⟨hU,hV⟩,⟨hW,hX⟩⟩,⟨ha,hb,hc,hd⟩,⟨he,hf,hh,hi⟩,hY,hZ⟩:=s
 refine ae (aK f80) ay func80 fun g F hg hF=> ?_
 cbv
 refine EO hg (tF ⟨ha,hb,hc,hd⟩ ⟨he,hf,hh,hi⟩) rfl (fun R0 R1 R2 R3 h0 h1 h2 h3=> ?_)
 cbv
 all_goals exact Ex hF (by subst_vars;exact⟨rfl,rfl,rfl,rfl⟩)
theorem ic(s:ak)(w:Bool):PC0 61 [.agg (lc (ak.c s)),abl w] (.i (ut s w)):=by
 cases w<;>(refine ae (aK f61) ay func61 fun g F hg hF=> ?_;cbv;repeat'(first|((first|refine EO hg (gA s) rfl (fun R0 R1 R2 R3 ha hb hc hd=> ?_)|refine bn hg (ir _ _ _ _) rfl (fun R0 ha=> ?_)|refine bn hg (iv _ _ _ _) rfl (fun R0 ha=> ?_));cbv)|(split<;>rename_i hh<;>(try rw [hh])<;>(try simp only [dB hg]at hh)<;>cbv)))
 all_goals exact aU hF (by subst_vars;rfl)
theorem ky(s:ak)(w:Bool):PC0 166 [.agg (lc (ak.c s)),abl w] (.i (ut s w)):=by
 cases w<;>(refine ae (aK f166) ay func166 fun g F hg hF=> ?_;cbv;repeat'(first|((first|refine EO hg (fu s) rfl (fun R0 R1 R2 R3 ha hb hc hd=> ?_)|refine bn hg (fS _ _ _ _) rfl (fun R0 ha=> ?_)|refine bn hg (fU _ _ _ _) rfl (fun R0 ha=> ?_));cbv)|(split<;>rename_i hh<;>(try rw [hh])<;>(try simp only [dB hg]at hh)<;>cbv)))
 all_goals exact aU hF (by subst_vars;rfl)
theorem eG(w:Bool)(a b c d:Int):PC0 143 [abl w,.agg [.J a,.J b],.agg [.J c,.J d]] (.t (agV (if w then⟨a,b⟩else⟨c,d⟩))):=by
 cases w<;>(refine ae (aK f143) ay func143 fun g F hg hF=> ?_;cbv;repeat'(first|(split<;>rename_i hh<;>(try rw [hh])<;>(try simp only [dB hg]at hh)<;>cbv)))
 all_goals exact nf hF (by exact⟨rfl,rfl⟩)
theorem gk(w:Bool)(a b c d:Int):PC0 168 [abl w,.agg [.J a,.J b],.agg [.J c,.J d]] (.t (agV (if w then⟨a,b⟩else⟨c,d⟩))):=by
 cases w<;>(refine ae (aK f168) ay func168 fun g F hg hF=> ?_;cbv;repeat'(first|(split<;>rename_i hh<;>(try rw [hh])<;>(try simp only [dB hg]at hh)<;>cbv)))
 all_goals exact nf hF (by exact⟨rfl,rfl⟩)
theorem jk(s:ak)(w:Bool)(b:Int):PC0 69 [.agg (lc (ak.c s)),abl w,ai b] (.i (Cu s w b)):=by
 obtain⟨a0,a1,a2,a3,a4,a5,a6,a7,a8,a9,hc,⟨hd,he⟩,⟨hf,hi⟩,⟨hj,hk⟩,⟨hl,hm⟩,⟨hn,ho⟩,⟨hp,hq⟩,⟨hr,hs⟩,ht,⟨⟨hu,hv⟩,⟨hw,hx⟩,⟨hy,hz⟩,⟨hA,hB⟩,⟨hC,hD⟩,⟨hE,hG⟩⟩,⟨⟨hH,hI⟩,⟨hJ,hK⟩,⟨hL,hM⟩,⟨hN,hO⟩,⟨hP,hQ⟩,⟨hR,hS⟩⟩,⟨hT,hU,hV,hW⟩,⟨hX,hY,hZ,h0⟩,h1,h2⟩:=s
 have hb:=ic (⟨a0,a1,a2,a3,a4,a5,a6,a7,a8,a9,hc,⟨hd,he⟩,⟨hf,hi⟩,⟨hj,hk⟩,⟨hl,hm⟩,⟨hn,ho⟩,⟨hp,hq⟩,⟨hr,hs⟩,ht,⟨⟨hu,hv⟩,⟨hw,hx⟩,⟨hy,hz⟩,⟨hA,hB⟩,⟨hC,hD⟩,⟨hE,hG⟩⟩,⟨⟨hH,hI⟩,⟨hJ,hK⟩,⟨hL,hM⟩,⟨hN,hO⟩,⟨hP,hQ⟩,⟨hR,hS⟩⟩,⟨hT,hU,hV,hW⟩,⟨hX,hY,hZ,h0⟩,h1,h2⟩:ak)
 cases w<;>(refine ae (aK f69) ay func69 fun g F hg hF=> ?_;cbv;repeat'(first|((first|refine tN hg (eG _ _ _ _ _) rfl (fun R0 R1 ha h3=> ?_)|refine bn hg (ei _ _ _) rfl (fun R0 ha=> ?_)|refine bn hg (jN _ _) rfl (fun R0 ha=> ?_)|refine bn hg (hb _) rfl (fun R0 ha=> ?_));cbv)|(split<;>rename_i hh<;>(try rw [hh])<;>(try simp only [dB hg]at hh)<;>cbv)))
 all_goals exact aU hF (by simp only [Cu];subst_vars;first|rfl|(split<;>first|rfl|contradiction|omega)|grind)
theorem jr(s:ak)(w:Bool)(b:Int):PC0 91 [.agg (lc (ak.c s)),abl w,ai b] (.i (Cu s w b)):=by
 cases w<;>(refine ae (aK f91) ay func91 fun g F hg hF=> ?_;cbv;repeat'(first|((first|refine mP hg (gk _ _ _ _ _) rfl (fun R0 R1 ha hb=> ?_)|refine aV hg (ek _ _ _) rfl (fun R0 ha=> ?_)|refine aV hg (ol _ _) rfl (fun R0 ha=> ?_)|refine aV hg (ky s _) rfl (fun R0 ha=> ?_));cbv)|(split<;>rename_i hh<;>(try rw [hh])<;>(try simp only [dB hg]at hh)<;>cbv)))
 all_goals exact aU hF (by simp only [Cu,FN hg];subst_vars;first|rfl|(split<;>first|rfl|contradiction|omega)|grind)
theorem jO(s:ak)(w:Bool)(b:Int):PC0 70 [.agg (lc (ak.c s)),abl w,ai b] (.i (Dv s w b)):=by
 cases w<;>(refine ae (aK f70) ay func70 fun g F hg hF=> ?_;cbv;repeat'(first|((first|refine tN hg (eG _ _ _ _ _) rfl (fun R0 R1 ha hb=> ?_)|refine bn hg (ei _ _ _) rfl (fun R0 ha=> ?_));cbv)|(split<;>rename_i hh<;>(try rw [hh])<;>(try simp only [dB hg]at hh)<;>cbv)))
 all_goals exact aU hF (by subst_vars;rfl)
theorem jZ(s:ak)(w:Bool)(b:Int):PC0 92 [.agg (lc (ak.c s)),abl w,ai b] (.i (Dv s w b)):=by
 cases w<;>(refine ae (aK f92) ay func92 fun g F hg hF=> ?_;cbv;repeat'(first|((first|refine tN hg (gk _ _ _ _ _) rfl (fun R0 R1 ha hb=> ?_)|refine bn hg (ek _ _ _) rfl (fun R0 ha=> ?_));cbv)|(split<;>rename_i hh<;>(try rw [hh])<;>(try simp only [dB hg]at hh)<;>cbv)))
 all_goals exact aU hF (by subst_vars;rfl)
theorem gB(s:ak)(w:Bool)(b:Int):PC0 139 [.agg (lc (ak.c s)),abl w,ai b] (.i (sa s w b)):=by
 cases w<;>(refine ae (aK f139) ay func139 fun g F hg hF=> ?_;cbv;repeat'(first|((first|refine tN hg (eG _ _ _ _ _) rfl (fun R0 R1 ha hb=> ?_)|refine bn hg (ei _ _ _) rfl (fun R0 ha=> ?_));cbv)|(split<;>rename_i hh<;>(try rw [hh])<;>(try simp only [dB hg]at hh)<;>cbv)))
 all_goals exact aU hF (by subst_vars;rfl)
theorem gM(s:ak)(w:Bool)(b:Int):PC0 111 [.agg (lc (ak.c s)),abl w,ai b] (.i (sa s w b)):=by
 cases w<;>(refine ae (aK f111) ay func111 fun g F hg hF=> ?_;cbv;repeat'(first|((first|refine tN hg (gk _ _ _ _ _) rfl (fun R0 R1 ha hb=> ?_)|refine bn hg (ek _ _ _) rfl (fun R0 ha=> ?_));cbv)|(split<;>rename_i hh<;>(try rw [hh])<;>(try simp only [dB hg]at hh)<;>cbv)))
 all_goals exact aU hF (by subst_vars;rfl)
theorem fk(s:ak)(w:Bool)(b n:Int):PC0 104 [.agg (lc (ak.c s)),abl w,ai b,ai n] (.i (pI s w b n)):=by
 refine ae (aK f104) ay func104 fun g F hg hF=> ?_
 cbv
 repeat'(first|((first|refine aV hg (jk s _ _) rfl (fun R0 ha=> ?_)|refine aV hg (jO s _ _) rfl (fun R0 ha=> ?_)|refine aV hg (jM _ _ _) rfl (fun R0 ha=> ?_)|refine aV hg (aO _) rfl (fun R0 ha=> ?_));cbv)|(split<;>rename_i hh<;>(try rw [hh])<;>(try simp only [dB hg]at hh)<;>cbv))
 all_goals exact aU hF (by subst_vars;rfl)
theorem gO(s:ak)(w:Bool)(b n:Int):PC0 113 [.agg (lc (ak.c s)),abl w,ai b,ai n] (.i (pI s w b n)):=by
 refine ae (aK f113) ay func113 fun g F hg hF=> ?_
 cbv
 repeat'(first|((first|refine aV hg (jr s _ _) rfl (fun R0 ha=> ?_)|refine aV hg (jZ s _ _) rfl (fun R0 ha=> ?_)|refine aV hg (jY _ _ _) rfl (fun R0 ha=> ?_)|refine aV hg (aZ _) rfl (fun R0 ha=> ?_));cbv)|(split<;>rename_i hh<;>(try rw [hh])<;>(try simp only [dB hg]at hh)<;>cbv))
 all_goals exact aU hF (by subst_vars;rfl)
variable {F:Nat->Prop}
theorem Dg{w:World}:∀(j:Nat)(x:AT),([]:List AT)[j]? =some x->∃v,([]:List Value)[j]? =some v/\RT F w [] [] x v:=fun j x h=>by simp at h
theorem jJ{w:World}{x:AT}{v:Value}{xs:List AT}{vs:List Value}(h1:RT F w [] [] x v)(h2:∀(j:Nat)(x:AT),xs[j]? =some x->∃v,vs[j]? =some v/\RT F w [] [] x v):
  ∀(j:Nat)(y:AT),(x::xs)[j]? =some y->∃u,(v::vs)[j]? =some u/\RT F w [] [] y u:=fun j y h=>by
 cases j with
 |zero=>simp only [zqw,zqy]at h;subst h;exact⟨v,rfl,h1⟩
 |succ j=>exact h2 j y (by simpa using h)
theorem jp(n:Int):PC0 112 [ai n] (.t (.agg [.J 3,.J n])):=by
 refine ae (aK f112) ay func112 fun g F hg hF=> ?_
 cbv
 all_goals exact nf hF (by exact⟨rfl,rfl⟩)
end Go.Proofs.YtkicjdeddpihaaaGreat
