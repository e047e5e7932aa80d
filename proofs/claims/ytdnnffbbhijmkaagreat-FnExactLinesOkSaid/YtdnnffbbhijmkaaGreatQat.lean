/- Boxes without their edges, spaces of a root, frames in bounds. -/
import Derived.Test.YtdnnffbbhijmkaaGreatQas
set_option linter.unusedVariables false
set_option linter.unusedSimpArgs false
set_option maxHeartbeats 4000000
namespace Go.Proofs.YtdnnffbbhijmkaaGreat
open Go.ChangeShapes Go.WideShapes Go.ChangeAt Go.RowKit Am Go.Proofs.Tryz
set_option maxRecDepth 100000
def bro(n l m:Int):Int:=if m<l∨n<l then l else if m<n then m else n
def cl(n:Int):Int:=bro n 0 1048576
def sg(n:Int):Int:=bro n (-1048576) 1048576
def fdv(a b:Int):Int:=if b<1 then 0 else if a.tmod b<0 then wrap64 (wrap64 (a.tdiv b)-1)else wrap64 (a.tdiv b)
def kn(v:bO)(base:Int):Bool:=decide (v.kind=1)||(decide (v.kind=2)&&decide (0≤base))
def DT(v:bO)(base:Int):Int:=if kn v base=false then-1 else if v.kind=1 then v.n else fdv (wrap64 (cl base*bro v.n (-1000000) 1000000)) 100
def sq(v:bO)(base:Int):Int:=if kn v base=false then-1 else cl (DT v base)
def orl(n m:Int):Int:=if n= -1 then m else n
def pT(s:bd)(sd:Int)(rtl:Bool):bO:=
 if sd=1 then s.top else if sd=3 then s.bottom
 else if sd=0 then(if(if rtl then s.fin else s.start).kind≠0 then(if rtl then s.fin else s.start)else s.left)
 else if sd=2 then(if(if rtl then s.start else s.fin).kind≠0 then(if rtl then s.start else s.fin)else s.right)else⟨0,0⟩
def adE(a b:Int):Int:=cl (wrap64 (cl a+cl b))
def Gz(a b:bu):bu:=⟨adE a.left b.left,adE a.top b.top,adE a.right b.right,adE a.bottom b.bottom⟩
def nL(s:ar):bu:=Gz s.pad s.border
def sN(s:ar)(wide:Bool):Int:=if wide then adE (nL s).left (nL s).right else adE (nL s).top (nL s).bottom
def z6(s:ar)(wide:Bool)(base:Int):Int:=if sN s wide<orl (sq (if wide then s.minWidth else s.minHeight) base) 0 then orl (sq (if wide then s.minWidth else s.minHeight) base) 0 else sN s wide
def Ba(s:ar)(wide:Bool)(base:Int):Int:=sq (if wide then s.maxWidth else s.maxHeight) base
def oM(s:ar)(wide:Bool)(base n:Int):Int:=cl (gv n (z6 s wide base) (Ba s wide base))
def qM(s:ar)(wide:Bool)(base:Int):Int:=sq (if wide then s.width else s.height) base
theorem ec(n l m:Int):PC0 282 [ai n,ai l,ai m] (.i (bro n l m)):=by
 refine ae (aK f282) aD func282 fun g F hg hF=> ?_
 cbv
 repeat'(first|(split<;>rename_i hh<;>(try rw [hh])<;>(try simp only [dp hg]at hh)<;>cbv))
 all_goals exact ba hF (by unfold bro;grind)
theorem ei(n l m:Int):PC0 298 [ai n,ai l,ai m] (.i (bro n l m)):=by
 refine ae (aK f298) aD func298 fun g F hg hF=> ?_
 cbv
 repeat'(first|(split<;>rename_i hh<;>(try rw [hh])<;>(try simp only [dp hg]at hh)<;>cbv))
 all_goals exact ba hF (by unfold bro;grind)
theorem bI(n l m:Int):PC0 149 [ai n,ai l,ai m] (.t (abl (decide (l≤n)&&decide (n≤m)))):=by
 refine ae (aK f149) aD func149 fun g F hg hF=> ?_
 cbv
 repeat'(first|(split<;>rename_i hh<;>(try rw [hh])<;>(try simp only [dp hg]at hh)<;>cbv))
 all_goals exact bj hF (by(try simp only [ip hg,gO hg]);grind)
theorem da(n l m:Int):PC0 154 [ai n,ai l,ai m] (.t (abl (decide (l≤n)&&decide (n≤m)))):=by
 refine ae (aK f154) aD func154 fun g F hg hF=> ?_
 cbv
 repeat'(first|(split<;>rename_i hh<;>(try rw [hh])<;>(try simp only [dp hg]at hh)<;>cbv))
 all_goals exact bj hF (by(try simp only [ip hg,gO hg]);grind)
theorem aO(n:Int):PC0 200 [ai n] (.i (cl n)):=by
 refine ae (aK f200) aD func200 fun g F hg hF=> ?_
 cbv
 repeat'(first|((first|refine bq hg (ec _ _ _) rfl (fun R0 hR0=> ?_)|refine aX hg (ec _ _ _) rfl (fun R0 hR0=> ?_));cbv)|(split<;>rename_i hh<;>(try rw [hh])<;>(try simp only [dp hg]at hh)<;>cbv))
 all_goals exact ba hF (by subst_vars;rfl)
theorem bf(n:Int):PC0 213 [ai n] (.i (cl n)):=by
 refine ae (aK f213) aD func213 fun g F hg hF=> ?_
 cbv
 repeat'(first|((first|refine bq hg (ei _ _ _) rfl (fun R0 hR0=> ?_)|refine aX hg (ei _ _ _) rfl (fun R0 hR0=> ?_));cbv)|(split<;>rename_i hh<;>(try rw [hh])<;>(try simp only [dp hg]at hh)<;>cbv))
 all_goals exact ba hF (by subst_vars;rfl)
theorem bQ(n:Int):PC0 281 [ai n] (.i (sg n)):=by
 refine ae (aK f281) aD func281 fun g F hg hF=> ?_
 cbv
 repeat'(first|((first|refine bq hg (ec _ _ _) rfl (fun R0 hR0=> ?_)|refine aX hg (ec _ _ _) rfl (fun R0 hR0=> ?_));cbv)|(split<;>rename_i hh<;>(try rw [hh])<;>(try simp only [dp hg]at hh)<;>cbv))
 all_goals exact ba hF (by subst_vars;rfl)
theorem cu(n:Int):PC0 299 [ai n] (.i (sg n)):=by
 refine ae (aK f299) aD func299 fun g F hg hF=> ?_
 cbv
 repeat'(first|((first|refine bq hg (ei _ _ _) rfl (fun R0 hR0=> ?_)|refine aX hg (ei _ _ _) rfl (fun R0 hR0=> ?_));cbv)|(split<;>rename_i hh<;>(try rw [hh])<;>(try simp only [dp hg]at hh)<;>cbv))
 all_goals exact ba hF (by subst_vars;rfl)
theorem px(n:Int):PC0 304 [ai n] (.i (bro n (-1000000) 1000000)):=by
 refine ae (aK f304) aD func304 fun g F hg hF=> ?_
 cbv
 repeat'(first|((first|refine bq hg (ec _ _ _) rfl (fun R0 hR0=> ?_)|refine aX hg (ec _ _ _) rfl (fun R0 hR0=> ?_));cbv)|(split<;>rename_i hh<;>(try rw [hh])<;>(try simp only [dp hg]at hh)<;>cbv))
 all_goals exact ba hF (by subst_vars;rfl)
theorem bJ(a b:Int):PC0 225 [ai a,ai b] (.i (fdv a b)):=by
 refine ae (aK f225) aD func225 fun g F hg hF=> ?_
 cbv
 by_cases hb:b<1
 ·have h0:g .q .lss b 1=true:=by rw [bn hg];simpa using hb
  rw [h0]
  cbv
  all_goals exact ba hF (by unfold fdv;rw [if_pos hb])
 ·have h0:g .q .lss b 1=false:=by rw [bn hg];simpa using hb
  rw [h0]
  cbv
  refine F7 hg (by omega) ?_
  cbv
  refine F7 hg (by omega) ?_
  cbv
  repeat'(first|(split<;>rename_i hh<;>(try rw [hh])<;>(try simp only [dp hg]at hh)<;>cbv))
  all_goals exact ba hF (by unfold fdv;simp only [DY hg,DZ hg,dd hg]at *;grind)
theorem bK(a b:Int):PC0 228 [ai a,ai b] (.i (fdv a b)):=by
 refine ae (aK f228) aD func228 fun g F hg hF=> ?_
 cbv
 by_cases hb:b<1
 ·have h0:g .q .lss b 1=true:=by rw [bn hg];simpa using hb
  rw [h0]
  cbv
  all_goals exact ba hF (by unfold fdv;rw [if_pos hb])
 ·have h0:g .q .lss b 1=false:=by rw [bn hg];simpa using hb
  rw [h0]
  cbv
  refine F7 hg (by omega) ?_
  cbv
  refine F7 hg (by omega) ?_
  cbv
  repeat'(first|(split<;>rename_i hh<;>(try rw [hh])<;>(try simp only [dp hg]at hh)<;>cbv))
  all_goals exact ba hF (by unfold fdv;simp only [DY hg,DZ hg,dd hg]at *;grind)
theorem fh(k n b:Int):PC0 223 [.agg [.J k,.J n],ai b] (.t (abl (kn ⟨k,n⟩ b))):=by
 refine ae (aK f223) aD func223 fun g F hg hF=> ?_
 cbv
 repeat'(first|(split<;>rename_i hh<;>(try rw [hh])<;>(try simp only [dp hg]at hh)<;>cbv))
 all_goals exact bj hF (by(try simp only [ip hg,gO hg,bv hg]);simp only [kn];grind)
theorem fp(k n b:Int):PC0 226 [.agg [.J k,.J n],ai b] (.t (abl (kn ⟨k,n⟩ b))):=by
 refine ae (aK f226) aD func226 fun g F hg hF=> ?_
 cbv
 repeat'(first|(split<;>rename_i hh<;>(try rw [hh])<;>(try simp only [dp hg]at hh)<;>cbv))
 all_goals exact bj hF (by(try simp only [ip hg,gO hg,bv hg]);simp only [kn];grind)
theorem fz(k n b:Int):PC0 224 [.agg [.J k,.J n],ai b] (.i (DT ⟨k,n⟩ b)):=by
 refine ae (aK f224) aD func224 fun g F hg hF=> ?_
 cbv
 repeat'(first|(refine br hg (fh _ _ _) rfl (fun R0 hR0=> ?_);cases R0<;>cbv)|(refine aZ hg (fh _ _ _) rfl (fun R0 hR0=> ?_);cases R0<;>cbv)|((first|refine bq hg (aO _) rfl (fun R0 hR0=> ?_)|refine aX hg (aO _) rfl (fun R0 hR0=> ?_)|refine bq hg (px _) rfl (fun R0 hR0=> ?_)|refine aX hg (px _) rfl (fun R0 hR0=> ?_)|refine bq hg (bJ _ _) rfl (fun R0 hR0=> ?_)|refine aX hg (bJ _ _) rfl (fun R0 hR0=> ?_));cbv)|(split<;>rename_i hh<;>(try rw [hh])<;>(try simp only [dp hg]at hh)<;>cbv))
 all_goals exact ba hF (by(try simp only [fO hg]at *);simp only [DT];grind)
theorem fE(k n b:Int):PC0 227 [.agg [.J k,.J n],ai b] (.i (DT ⟨k,n⟩ b)):=by
 refine ae (aK f227) aD func227 fun g F hg hF=> ?_
 cbv
 repeat'(first|(refine br hg (fp _ _ _) rfl (fun R0 hR0=> ?_);cases R0<;>cbv)|(refine aZ hg (fp _ _ _) rfl (fun R0 hR0=> ?_);cases R0<;>cbv)|((first|refine bq hg (bf _) rfl (fun R0 hR0=> ?_)|refine aX hg (bf _) rfl (fun R0 hR0=> ?_)|refine bq hg (ei _ _ _) rfl (fun R0 hR0=> ?_)|refine aX hg (ei _ _ _) rfl (fun R0 hR0=> ?_)|refine bq hg (bK _ _) rfl (fun R0 hR0=> ?_)|refine aX hg (bK _ _) rfl (fun R0 hR0=> ?_));cbv)|(split<;>rename_i hh<;>(try rw [hh])<;>(try simp only [dp hg]at hh)<;>cbv))
 all_goals exact ba hF (by(try simp only [fO hg]at *);simp only [DT];grind)
theorem dL(k n b:Int):PC0 140 [.agg [.J k,.J n],ai b] (.i (sq ⟨k,n⟩ b)):=by
 refine ae (aK f140) aD func140 fun g F hg hF=> ?_
 cbv
 repeat'(first|(refine br hg (fh _ _ _) rfl (fun R0 hR0=> ?_);cases R0<;>cbv)|(refine aZ hg (fh _ _ _) rfl (fun R0 hR0=> ?_);cases R0<;>cbv)|((first|refine bq hg (aO _) rfl (fun R0 hR0=> ?_)|refine aX hg (aO _) rfl (fun R0 hR0=> ?_)|refine bq hg (fz _ _ _) rfl (fun R0 hR0=> ?_)|refine aX hg (fz _ _ _) rfl (fun R0 hR0=> ?_));cbv)|(split<;>rename_i hh<;>(try rw [hh])<;>(try simp only [dp hg]at hh)<;>cbv))
 all_goals exact ba hF (by simp only [sq];grind)
theorem dP(k n b:Int):PC0 143 [.agg [.J k,.J n],ai b] (.i (sq ⟨k,n⟩ b)):=by
 refine ae (aK f143) aD func143 fun g F hg hF=> ?_
 cbv
 repeat'(first|(refine br hg (fp _ _ _) rfl (fun R0 hR0=> ?_);cases R0<;>cbv)|(refine aZ hg (fp _ _ _) rfl (fun R0 hR0=> ?_);cases R0<;>cbv)|((first|refine bq hg (bf _) rfl (fun R0 hR0=> ?_)|refine aX hg (bf _) rfl (fun R0 hR0=> ?_)|refine bq hg (fE _ _ _) rfl (fun R0 hR0=> ?_)|refine aX hg (fE _ _ _) rfl (fun R0 hR0=> ?_));cbv)|(split<;>rename_i hh<;>(try rw [hh])<;>(try simp only [dp hg]at hh)<;>cbv))
 all_goals exact ba hF (by simp only [sq];grind)
theorem jn(n m:Int):PC0 139 [ai n,ai m] (.i (orl n m)):=by
 refine ae (aK f139) aD func139 fun g F hg hF=> ?_
 cbv
 repeat'(first|(split<;>rename_i hh<;>(try rw [hh])<;>(try simp only [dp hg]at hh)<;>cbv))
 all_goals exact ba hF (by simp only [orl];grind)
theorem nG(n m:Int):PC0 258 [ai n,ai m] (.i (orl n m)):=by
 refine ae (aK f258) aD func258 fun g F hg hF=> ?_
 cbv
 repeat'(first|(split<;>rename_i hh<;>(try rw [hh])<;>(try simp only [dp hg]at hh)<;>cbv))
 all_goals exact ba hF (by simp only [orl];grind)
abbrev agV(v:bO):AT:= .agg [.J v.kind,.J v.n]
abbrev agP(v:aw):AT:= .agg [.J v.mode,.J v.n]
abbrev agE(e:bu):AT:= .agg [.J e.left,.J e.top,.J e.right,.J e.bottom]
theorem mU(s:bd)(sd:Int)(rtl:Bool):PC0 280 [.agg (lc (bd.c s)),ai sd,abl rtl] (.t (agV (pT s sd rtl))):=by
 obtain⟨⟨a0,a1⟩,⟨a2,a3⟩,⟨a4,a5⟩,⟨a6,a7⟩,⟨a8,a9⟩,⟨a10,a11⟩⟩:=s
 cases rtl<;>(refine ae (aK f280) aD func280 fun g F hg hF=> ?_;cbv;repeat'(first|(split<;>rename_i hh<;>(try rw [hh])<;>(try simp only [dp hg]at hh)<;>cbv)))
 all_goals exact mC hF (by simp only [pT];grind)
theorem dD(a b:Int):PC0 219 [ai a,ai b] (.i (adE a b)):=by
 refine ae (aK f219) aD func219 fun g F hg hF=> ?_
 cbv
 repeat'(first|((first|refine bq hg (bf _) rfl (fun R0 hR0=> ?_)|refine aX hg (bf _) rfl (fun R0 hR0=> ?_));cbv)|(split<;>rename_i hh<;>(try rw [hh])<;>(try simp only [dp hg]at hh)<;>cbv))
 all_goals exact ba hF (by(try simp only [aM hg]at *);subst_vars;rfl)
theorem ry(a b:bu):PC0 241 [agE a,agE b] (.t (agE (Gz a b))):=by
 obtain⟨a0,a1,a2,a3⟩:=a
 obtain⟨b0,b1,b2,b3⟩:=b
 refine ae (aK f241) aD func241 fun g F hg hF=> ?_
 cbv
 repeat'(first|((first|refine bq hg (aO _) rfl (fun R0 hR0=> ?_)|refine aX hg (aO _) rfl (fun R0 hR0=> ?_));cbv)|(split<;>rename_i hh<;>(try rw [hh])<;>(try simp only [dp hg]at hh)<;>cbv))
 all_goals exact B9 hF (by(try simp only [aM hg]at *);subst_vars;exact⟨rfl,rfl,rfl,rfl⟩)
theorem rZ(a b:bu):PC0 220 [agE a,agE b] (.t (agE (Gz a b))):=by
 obtain⟨a0,a1,a2,a3⟩:=a
 obtain⟨b0,b1,b2,b3⟩:=b
 refine ae (aK f220) aD func220 fun g F hg hF=> ?_
 cbv
 repeat'(first|((first|refine bq hg (dD _ _) rfl (fun R0 hR0=> ?_)|refine aX hg (dD _ _) rfl (fun R0 hR0=> ?_));cbv)|(split<;>rename_i hh<;>(try rw [hh])<;>(try simp only [dp hg]at hh)<;>cbv))
 all_goals exact B9 hF (by subst_vars;exact⟨rfl,rfl,rfl,rfl⟩)
theorem gY(l t r b:Int):PC0 203 [agE ⟨l,t,r,b⟩] (.i (adE l r)):=by
 refine ae (aK f203) aD func203 fun g F hg hF=> ?_
 cbv
 repeat'(first|((first|refine bq hg (aO _) rfl (fun R0 hR0=> ?_)|refine aX hg (aO _) rfl (fun R0 hR0=> ?_));cbv)|(split<;>rename_i hh<;>(try rw [hh])<;>(try simp only [dp hg]at hh)<;>cbv))
 all_goals exact ba hF (by(try simp only [aM hg]at *);subst_vars;rfl)
theorem hP(l t r b:Int):PC0 204 [agE ⟨l,t,r,b⟩] (.i (adE t b)):=by
 refine ae (aK f204) aD func204 fun g F hg hF=> ?_
 cbv
 repeat'(first|((first|refine bq hg (aO _) rfl (fun R0 hR0=> ?_)|refine aX hg (aO _) rfl (fun R0 hR0=> ?_));cbv)|(split<;>rename_i hh<;>(try rw [hh])<;>(try simp only [dp hg]at hh)<;>cbv))
 all_goals exact ba hF (by(try simp only [aM hg]at *);subst_vars;rfl)
theorem fD(l t r b:Int):PC0 135 [agE ⟨l,t,r,b⟩] (.i (adE l r)):=by
 refine ae (aK f135) aD func135 fun g F hg hF=> ?_
 cbv
 repeat'(first|((first|refine bq hg (dD _ _) rfl (fun R0 hR0=> ?_)|refine aX hg (dD _ _) rfl (fun R0 hR0=> ?_));cbv)|(split<;>rename_i hh<;>(try rw [hh])<;>(try simp only [dp hg]at hh)<;>cbv))
 all_goals exact ba hF (by subst_vars;rfl)
theorem fF(l t r b:Int):PC0 137 [agE ⟨l,t,r,b⟩] (.i (adE t b)):=by
 refine ae (aK f137) aD func137 fun g F hg hF=> ?_
 cbv
 repeat'(first|((first|refine bq hg (dD _ _) rfl (fun R0 hR0=> ?_)|refine aX hg (dD _ _) rfl (fun R0 hR0=> ?_));cbv)|(split<;>rename_i hh<;>(try rw [hh])<;>(try simp only [dp hg]at hh)<;>cbv))
 all_goals exact ba hF (by subst_vars;rfl)
theorem fW(s:ar):PC0 162 [.agg (lc (ar.c s))] (.t (agE (nL s))):=by
 obtain⟨a0,a1,a2,a3,a4,a5,a6,a7,a8,a9,a10,⟨a11,a12⟩,⟨a13,a14⟩,⟨a15,a16⟩,⟨a17,a18⟩,⟨a19,a20⟩,⟨a21,a22⟩,⟨a23,a24⟩,a25,⟨⟨a26,a27⟩,⟨a28,a29⟩,⟨a30,a31⟩,⟨a32,a33⟩,⟨a34,a35⟩,⟨a36,a37⟩⟩,⟨⟨a38,a39⟩,⟨a40,a41⟩,⟨a42,a43⟩,⟨a44,a45⟩,⟨a46,a47⟩,⟨a48,a49⟩⟩,⟨a50,a51,a52,a53⟩,⟨a54,a55,a56,a57⟩,a58,a59⟩:=s
 refine ae (aK f162) aD func162 fun g F hg hF=> ?_
 cbv
 refine Co hg (ry ⟨a50,a51,a52,a53⟩ ⟨a54,a55,a56,a57⟩) rfl (fun R0 R1 R2 R3 hR0 hR1 hR2 hR3=> ?_)
 cbv
 all_goals exact B9 hF (by subst_vars;exact⟨rfl,rfl,rfl,rfl⟩)
theorem eY(s:ar):PC0 136 [.agg (lc (ar.c s))] (.t (agE (nL s))):=by
 obtain⟨a0,a1,a2,a3,a4,a5,a6,a7,a8,a9,a10,⟨a11,a12⟩,⟨a13,a14⟩,⟨a15,a16⟩,⟨a17,a18⟩,⟨a19,a20⟩,⟨a21,a22⟩,⟨a23,a24⟩,a25,⟨⟨a26,a27⟩,⟨a28,a29⟩,⟨a30,a31⟩,⟨a32,a33⟩,⟨a34,a35⟩,⟨a36,a37⟩⟩,⟨⟨a38,a39⟩,⟨a40,a41⟩,⟨a42,a43⟩,⟨a44,a45⟩,⟨a46,a47⟩,⟨a48,a49⟩⟩,⟨a50,a51,a52,a53⟩,⟨a54,a55,a56,a57⟩,a58,a59⟩:=s
 refine ae (aK f136) aD func136 fun g F hg hF=> ?_
 cbv
 refine Co hg (rZ ⟨a50,a51,a52,a53⟩ ⟨a54,a55,a56,a57⟩) rfl (fun R0 R1 R2 R3 hR0 hR1 hR2 hR3=> ?_)
 cbv
 all_goals exact B9 hF (by subst_vars;exact⟨rfl,rfl,rfl,rfl⟩)
theorem gI(s:ar)(w:Bool):PC0 118 [.agg (lc (ar.c s)),abl w] (.i (sN s w)):=by
 cases w<;>(refine ae (aK f118) aD func118 fun g F hg hF=> ?_;cbv;repeat'(first|((first|refine Co hg (fW s) rfl (fun R0 R1 R2 R3 hR0 hR1 hR2 hR3=> ?_)|refine De hg (fW s) rfl (fun R0 R1 R2 R3 hR0 hR1 hR2 hR3=> ?_)|refine bq hg (gY _ _ _ _) rfl (fun R0 hR0=> ?_)|refine aX hg (gY _ _ _ _) rfl (fun R0 hR0=> ?_)|refine bq hg (hP _ _ _ _) rfl (fun R0 hR0=> ?_)|refine aX hg (hP _ _ _ _) rfl (fun R0 hR0=> ?_));cbv)|(split<;>rename_i hh<;>(try rw [hh])<;>(try simp only [dp hg]at hh)<;>cbv)))
 all_goals exact ba hF (by subst_vars;rfl)
theorem jX(s:ar)(w:Bool):PC0 257 [.agg (lc (ar.c s)),abl w] (.i (sN s w)):=by
 cases w<;>(refine ae (aK f257) aD func257 fun g F hg hF=> ?_;cbv;repeat'(first|((first|refine Co hg (eY s) rfl (fun R0 R1 R2 R3 hR0 hR1 hR2 hR3=> ?_)|refine De hg (eY s) rfl (fun R0 R1 R2 R3 hR0 hR1 hR2 hR3=> ?_)|refine bq hg (fD _ _ _ _) rfl (fun R0 hR0=> ?_)|refine aX hg (fD _ _ _ _) rfl (fun R0 hR0=> ?_)|refine bq hg (fF _ _ _ _) rfl (fun R0 hR0=> ?_)|refine aX hg (fF _ _ _ _) rfl (fun R0 hR0=> ?_));cbv)|(split<;>rename_i hh<;>(try rw [hh])<;>(try simp only [dp hg]at hh)<;>cbv)))
 all_goals exact ba hF (by subst_vars;rfl)
theorem eb(w:Bool)(a b c d:Int):PC0 199 [abl w,.agg [.J a,.J b],.agg [.J c,.J d]] (.t (agV (if w then⟨a,b⟩else⟨c,d⟩))):=by
 cases w<;>(refine ae (aK f199) aD func199 fun g F hg hF=> ?_;cbv;repeat'(first|(split<;>rename_i hh<;>(try rw [hh])<;>(try simp only [dp hg]at hh)<;>cbv)))
 all_goals exact mC hF (by exact⟨rfl,rfl⟩)
theorem fL(w:Bool)(a b c d:Int):PC0 212 [abl w,.agg [.J a,.J b],.agg [.J c,.J d]] (.t (agV (if w then⟨a,b⟩else⟨c,d⟩))):=by
 cases w<;>(refine ae (aK f212) aD func212 fun g F hg hF=> ?_;cbv;repeat'(first|(split<;>rename_i hh<;>(try rw [hh])<;>(try simp only [dp hg]at hh)<;>cbv)))
 all_goals exact mC hF (by exact⟨rfl,rfl⟩)
theorem iP(s:ar)(w:Bool)(b:Int):PC0 172 [.agg (lc (ar.c s)),abl w,ai b] (.i (z6 s w b)):=by
 obtain⟨a0,a1,a2,a3,a4,a5,a6,a7,a8,a9,a10,⟨a11,a12⟩,⟨a13,a14⟩,⟨a15,a16⟩,⟨a17,a18⟩,⟨a19,a20⟩,⟨a21,a22⟩,⟨a23,a24⟩,a25,⟨⟨a26,a27⟩,⟨a28,a29⟩,⟨a30,a31⟩,⟨a32,a33⟩,⟨a34,a35⟩,⟨a36,a37⟩⟩,⟨⟨a38,a39⟩,⟨a40,a41⟩,⟨a42,a43⟩,⟨a44,a45⟩,⟨a46,a47⟩,⟨a48,a49⟩⟩,⟨a50,a51,a52,a53⟩,⟨a54,a55,a56,a57⟩,a58,a59⟩:=s
 have zc1:=gI (⟨a0,a1,a2,a3,a4,a5,a6,a7,a8,a9,a10,⟨a11,a12⟩,⟨a13,a14⟩,⟨a15,a16⟩,⟨a17,a18⟩,⟨a19,a20⟩,⟨a21,a22⟩,⟨a23,a24⟩,a25,⟨⟨a26,a27⟩,⟨a28,a29⟩,⟨a30,a31⟩,⟨a32,a33⟩,⟨a34,a35⟩,⟨a36,a37⟩⟩,⟨⟨a38,a39⟩,⟨a40,a41⟩,⟨a42,a43⟩,⟨a44,a45⟩,⟨a46,a47⟩,⟨a48,a49⟩⟩,⟨a50,a51,a52,a53⟩,⟨a54,a55,a56,a57⟩,a58,a59⟩:ar)
 cases w<;>(refine ae (aK f172) aD func172 fun g F hg hF=> ?_;cbv;repeat'(first|((first|refine r9 hg (eb _ _ _ _ _) rfl (fun R0 R1 hR0 hR1=> ?_)|refine mh hg (eb _ _ _ _ _) rfl (fun R0 R1 hR0 hR1=> ?_)|refine bq hg (dL _ _ _) rfl (fun R0 hR0=> ?_)|refine aX hg (dL _ _ _) rfl (fun R0 hR0=> ?_)|refine bq hg (jn _ _) rfl (fun R0 hR0=> ?_)|refine aX hg (jn _ _) rfl (fun R0 hR0=> ?_)|refine bq hg (zc1 _) rfl (fun R0 hR0=> ?_)|refine aX hg (zc1 _) rfl (fun R0 hR0=> ?_));cbv)|(split<;>rename_i hh<;>(try rw [hh])<;>(try simp only [dp hg]at hh)<;>cbv)))
 all_goals exact ba hF (by simp only [z6];subst_vars;first|rfl|(split<;>first|rfl|contradiction|omega)|grind)
theorem iU(s:ar)(w:Bool)(b:Int):PC0 180 [.agg (lc (ar.c s)),abl w,ai b] (.i (z6 s w b)):=by
 cases w<;>(refine ae (aK f180) aD func180 fun g F hg hF=> ?_;cbv;repeat'(first|((first|refine r9 hg (fL _ _ _ _ _) rfl (fun R0 R1 hR0 hR1=> ?_)|refine mh hg (fL _ _ _ _ _) rfl (fun R0 R1 hR0 hR1=> ?_)|refine bq hg (dP _ _ _) rfl (fun R0 hR0=> ?_)|refine aX hg (dP _ _ _) rfl (fun R0 hR0=> ?_)|refine bq hg (nG _ _) rfl (fun R0 hR0=> ?_)|refine aX hg (nG _ _) rfl (fun R0 hR0=> ?_)|refine bq hg (jX s _) rfl (fun R0 hR0=> ?_)|refine aX hg (jX s _) rfl (fun R0 hR0=> ?_));cbv)|(split<;>rename_i hh<;>(try rw [hh])<;>(try simp only [dp hg]at hh)<;>cbv)))
 all_goals exact ba hF (by simp only [z6,C5 hg];subst_vars;first|rfl|(split<;>first|rfl|contradiction|omega)|grind)
theorem jo(s:ar)(w:Bool)(b:Int):PC0 173 [.agg (lc (ar.c s)),abl w,ai b] (.i (Ba s w b)):=by
 cases w<;>(refine ae (aK f173) aD func173 fun g F hg hF=> ?_;cbv;repeat'(first|((first|refine r9 hg (eb _ _ _ _ _) rfl (fun R0 R1 hR0 hR1=> ?_)|refine mh hg (eb _ _ _ _ _) rfl (fun R0 R1 hR0 hR1=> ?_)|refine bq hg (dL _ _ _) rfl (fun R0 hR0=> ?_)|refine aX hg (dL _ _ _) rfl (fun R0 hR0=> ?_));cbv)|(split<;>rename_i hh<;>(try rw [hh])<;>(try simp only [dp hg]at hh)<;>cbv)))
 all_goals exact ba hF (by subst_vars;rfl)
theorem jC(s:ar)(w:Bool)(b:Int):PC0 181 [.agg (lc (ar.c s)),abl w,ai b] (.i (Ba s w b)):=by
 cases w<;>(refine ae (aK f181) aD func181 fun g F hg hF=> ?_;cbv;repeat'(first|((first|refine r9 hg (fL _ _ _ _ _) rfl (fun R0 R1 hR0 hR1=> ?_)|refine mh hg (fL _ _ _ _ _) rfl (fun R0 R1 hR0 hR1=> ?_)|refine bq hg (dP _ _ _) rfl (fun R0 hR0=> ?_)|refine aX hg (dP _ _ _) rfl (fun R0 hR0=> ?_));cbv)|(split<;>rename_i hh<;>(try rw [hh])<;>(try simp only [dp hg]at hh)<;>cbv)))
 all_goals exact ba hF (by subst_vars;rfl)
theorem fX(s:ar)(w:Bool)(b:Int):PC0 110 [.agg (lc (ar.c s)),abl w,ai b] (.i (qM s w b)):=by
 cases w<;>(refine ae (aK f110) aD func110 fun g F hg hF=> ?_;cbv;repeat'(first|((first|refine r9 hg (eb _ _ _ _ _) rfl (fun R0 R1 hR0 hR1=> ?_)|refine mh hg (eb _ _ _ _ _) rfl (fun R0 R1 hR0 hR1=> ?_)|refine bq hg (dL _ _ _) rfl (fun R0 hR0=> ?_)|refine aX hg (dL _ _ _) rfl (fun R0 hR0=> ?_));cbv)|(split<;>rename_i hh<;>(try rw [hh])<;>(try simp only [dp hg]at hh)<;>cbv)))
 all_goals exact ba hF (by subst_vars;rfl)
theorem gp(s:ar)(w:Bool)(b:Int):PC0 125 [.agg (lc (ar.c s)),abl w,ai b] (.i (qM s w b)):=by
 cases w<;>(refine ae (aK f125) aD func125 fun g F hg hF=> ?_;cbv;repeat'(first|((first|refine r9 hg (fL _ _ _ _ _) rfl (fun R0 R1 hR0 hR1=> ?_)|refine mh hg (fL _ _ _ _ _) rfl (fun R0 R1 hR0 hR1=> ?_)|refine bq hg (dP _ _ _) rfl (fun R0 hR0=> ?_)|refine aX hg (dP _ _ _) rfl (fun R0 hR0=> ?_));cbv)|(split<;>rename_i hh<;>(try rw [hh])<;>(try simp only [dp hg]at hh)<;>cbv)))
 all_goals exact ba hF (by subst_vars;rfl)
theorem eV(s:ar)(w:Bool)(b n:Int):PC0 111 [.agg (lc (ar.c s)),abl w,ai b,ai n] (.i (oM s w b n)):=by
 refine ae (aK f111) aD func111 fun g F hg hF=> ?_
 cbv
 repeat'(first|((first|refine bq hg (iP s _ _) rfl (fun R0 hR0=> ?_)|refine aX hg (iP s _ _) rfl (fun R0 hR0=> ?_)|refine bq hg (jo s _ _) rfl (fun R0 hR0=> ?_)|refine aX hg (jo s _ _) rfl (fun R0 hR0=> ?_)|refine bq hg (jm _ _ _) rfl (fun R0 hR0=> ?_)|refine aX hg (jm _ _ _) rfl (fun R0 hR0=> ?_)|refine bq hg (aO _) rfl (fun R0 hR0=> ?_)|refine aX hg (aO _) rfl (fun R0 hR0=> ?_));cbv)|(split<;>rename_i hh<;>(try rw [hh])<;>(try simp only [dp hg]at hh)<;>cbv))
 all_goals exact ba hF (by subst_vars;rfl)
theorem gu(s:ar)(w:Bool)(b n:Int):PC0 127 [.agg (lc (ar.c s)),abl w,ai b,ai n] (.i (oM s w b n)):=by
 refine ae (aK f127) aD func127 fun g F hg hF=> ?_
 cbv
 repeat'(first|((first|refine bq hg (iU s _ _) rfl (fun R0 hR0=> ?_)|refine aX hg (iU s _ _) rfl (fun R0 hR0=> ?_)|refine bq hg (jC s _ _) rfl (fun R0 hR0=> ?_)|refine aX hg (jC s _ _) rfl (fun R0 hR0=> ?_)|refine bq hg (jA _ _ _) rfl (fun R0 hR0=> ?_)|refine aX hg (jA _ _ _) rfl (fun R0 hR0=> ?_)|refine bq hg (bf _) rfl (fun R0 hR0=> ?_)|refine aX hg (bf _) rfl (fun R0 hR0=> ?_));cbv)|(split<;>rename_i hh<;>(try rw [hh])<;>(try simp only [dp hg]at hh)<;>cbv))
 all_goals exact ba hF (by subst_vars;rfl)
theorem AX{F:Nat→Prop}{w:World}:∀(j:Nat)(x:AT),([]:List AT)[j]? =some x→∃v,([]:List Value)[j]? =some v∧RT F w [] [] x v:=fun j x h=>by simp at h
theorem jj{F:Nat→Prop}{w:World}{x:AT}{v:Value}{xs:List AT}{vs:List Value}(h1:RT F w [] [] x v)(h2:∀(j:Nat)(x:AT),xs[j]? =some x→∃v,vs[j]? =some v∧RT F w [] [] x v):
  ∀(j:Nat)(y:AT),(x::xs)[j]? =some y→∃u,(v::vs)[j]? =some u∧RT F w [] [] y u:=fun j y h=>by
 cases j with
 |zero=>simp only [zqw,zqy]at h;subst h;exact⟨v,rfl,h1⟩
 |succ j=>exact h2 j y (by simpa using h)
theorem iT(n:Int):PC0 126 [ai n] (.t (.agg [.J 3,.J n])):=by
 refine ae (aK f126) aD func126 fun g F hg hF=> ?_
 cbv
 all_goals exact mC hF (by exact⟨rfl,rfl⟩)
end Go.Proofs.YtdnnffbbhijmkaaGreat
