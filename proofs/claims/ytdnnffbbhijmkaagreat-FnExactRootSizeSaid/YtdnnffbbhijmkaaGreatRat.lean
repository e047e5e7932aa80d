/- Sides, styles and bounds, as maps of data. -/
import Derived.Test.YtdnnffbbhijmkaaGreatRas
set_option linter.unusedVariables false
set_option linter.unusedSimpArgs false
set_option maxHeartbeats 4000000
namespace Go.Proofs.YtdnnffbbhijmkaaGreat
open Go.ChangeShapes Go.WideShapes Go.ChangeAt Go.RowKit Am Go.Proofs.Tryz
set_option maxRecDepth 100000
def bro(n l m:Int):Int:=if m<l∨n<l then l else if m<n then m else n
def cl(n:Int):Int:=bro n 0 1048576
def sg(n:Int):Int:=bro n (-1048576) 1048576
def fdv(a b:Int):Int:=if b<1 then 0 else if a.tmod b<0 then wrap64 (wrap64 (a.tdiv b)-1)else wrap64 (a.tdiv b)
def kn(v:bN)(base:Int):Bool:=decide (v.kind=1)||(decide (v.kind=2)&&decide (0≤base))
def Dj(v:bN)(base:Int):Int:=if kn v base=false then-1 else if v.kind=1 then v.n else fdv (wrap64 (cl base*bro v.n (-1000000) 1000000)) 100
def rK(v:bN)(base:Int):Int:=if kn v base=false then-1 else cl (Dj v base)
def orl(n m:Int):Int:=if n= -1 then m else n
def pk(s:bd)(sd:Int)(rtl:Bool):bN:=
 if sd=1 then s.top else if sd=3 then s.bottom
 else if sd=0 then(if(if rtl then s.fin else s.start).kind≠0 then(if rtl then s.fin else s.start)else s.left)
 else if sd=2 then(if(if rtl then s.start else s.fin).kind≠0 then(if rtl then s.start else s.fin)else s.right)else⟨0,0⟩
def adE(a b:Int):Int:=cl (wrap64 (cl a+cl b))
def FO(a b:bq):bq:=⟨adE a.left b.left,adE a.top b.top,adE a.right b.right,adE a.bottom b.bottom⟩
def np(s:aq):bq:=FO s.pad s.border
def r8(s:aq)(wide:Bool):Int:=if wide then adE (np s).left (np s).right else adE (np s).top (np s).bottom
def zA(s:aq)(wide:Bool)(base:Int):Int:=if r8 s wide<orl (rK (if wide then s.minWidth else s.minHeight) base) 0 then orl (rK (if wide then s.minWidth else s.minHeight) base) 0 else r8 s wide
def Au(s:aq)(wide:Bool)(base:Int):Int:=rK (if wide then s.maxWidth else s.maxHeight) base
def jR(s:aq)(wide:Bool)(base n:Int):Int:=cl (gK n (zA s wide base) (Au s wide base))
def oQ(s:aq)(wide:Bool)(base:Int):Int:=rK (if wide then s.width else s.height) base
def fw(s:aq)(wide:Bool)(n:Int):aF:=if oQ s wide n≠ -1 then⟨3,jR s wide n (oQ s wide n)⟩else if n<0 then⟨1,0⟩else⟨3,jR s wide n n⟩
theorem ef(n l m:Int):PC0 282 [ai n,ai l,ai m] (.t (ai (bro n l m))):=by
 refine ae (aN f282) aB func282 fun g F hg hF=> ?_
 cbv
 repeat'(first|(split<;>rename_i hh<;>(try rw [hh])<;>(try simp only [dl hg]at hh)<;>cbv))
 all_goals exact aY hF (by unfold bro;grind)
theorem ek(n l m:Int):PC0 298 [ai n,ai l,ai m] (.t (ai (bro n l m))):=by
 refine ae (aN f298) aB func298 fun g F hg hF=> ?_
 cbv
 repeat'(first|(split<;>rename_i hh<;>(try rw [hh])<;>(try simp only [dl hg]at hh)<;>cbv))
 all_goals exact aY hF (by unfold bro;grind)
theorem bG(n l m:Int):PC0 149 [ai n,ai l,ai m] (.t (abl (decide (l≤n)&&decide (n≤m)))):=by
 refine ae (aN f149) aB func149 fun g F hg hF=> ?_
 cbv
 repeat'(first|(split<;>rename_i hh<;>(try rw [hh])<;>(try simp only [dl hg]at hh)<;>cbv))
 all_goals exact bn hF (by(try simp only [ib hg,hP hg]);grind)
theorem da(n l m:Int):PC0 154 [ai n,ai l,ai m] (.t (abl (decide (l≤n)&&decide (n≤m)))):=by
 refine ae (aN f154) aB func154 fun g F hg hF=> ?_
 cbv
 repeat'(first|(split<;>rename_i hh<;>(try rw [hh])<;>(try simp only [dl hg]at hh)<;>cbv))
 all_goals exact bn hF (by(try simp only [ib hg,hP hg]);grind)
theorem aO(n:Int):PC0 200 [ai n] (.t (ai (cl n))):=by
 refine ae (aN f200) aB func200 fun g F hg hF=> ?_
 cbv
 repeat'(first|((first|refine bm hg (ef _ _ _) rfl (fun R0 hR0=> ?_)|refine aU hg (ef _ _ _) rfl (fun R0 hR0=> ?_));cbv)|(split<;>rename_i hh<;>(try rw [hh])<;>(try simp only [dl hg]at hh)<;>cbv))
 all_goals exact aY hF (by subst_vars;rfl)
theorem bf(n:Int):PC0 213 [ai n] (.t (ai (cl n))):=by
 refine ae (aN f213) aB func213 fun g F hg hF=> ?_
 cbv
 repeat'(first|((first|refine bm hg (ek _ _ _) rfl (fun R0 hR0=> ?_)|refine aU hg (ek _ _ _) rfl (fun R0 hR0=> ?_));cbv)|(split<;>rename_i hh<;>(try rw [hh])<;>(try simp only [dl hg]at hh)<;>cbv))
 all_goals exact aY hF (by subst_vars;rfl)
theorem bO(n:Int):PC0 281 [ai n] (.t (ai (sg n))):=by
 refine ae (aN f281) aB func281 fun g F hg hF=> ?_
 cbv
 repeat'(first|((first|refine bm hg (ef _ _ _) rfl (fun R0 hR0=> ?_)|refine aU hg (ef _ _ _) rfl (fun R0 hR0=> ?_));cbv)|(split<;>rename_i hh<;>(try rw [hh])<;>(try simp only [dl hg]at hh)<;>cbv))
 all_goals exact aY hF (by subst_vars;rfl)
theorem cj(n:Int):PC0 299 [ai n] (.t (ai (sg n))):=by
 refine ae (aN f299) aB func299 fun g F hg hF=> ?_
 cbv
 repeat'(first|((first|refine bm hg (ek _ _ _) rfl (fun R0 hR0=> ?_)|refine aU hg (ek _ _ _) rfl (fun R0 hR0=> ?_));cbv)|(split<;>rename_i hh<;>(try rw [hh])<;>(try simp only [dl hg]at hh)<;>cbv))
 all_goals exact aY hF (by subst_vars;rfl)
theorem pc(n:Int):PC0 304 [ai n] (.t (ai (bro n (-1000000) 1000000))):=by
 refine ae (aN f304) aB func304 fun g F hg hF=> ?_
 cbv
 repeat'(first|((first|refine bm hg (ef _ _ _) rfl (fun R0 hR0=> ?_)|refine aU hg (ef _ _ _) rfl (fun R0 hR0=> ?_));cbv)|(split<;>rename_i hh<;>(try rw [hh])<;>(try simp only [dl hg]at hh)<;>cbv))
 all_goals exact aY hF (by subst_vars;rfl)
theorem bH(a b:Int):PC0 225 [ai a,ai b] (.t (ai (fdv a b))):=by
 refine ae (aN f225) aB func225 fun g F hg hF=> ?_
 cbv
 by_cases hb:b<1
 ·have h0:g .q .lss b 1=true:=by rw [bk hg];simpa using hb
  rw [h0]
  cbv
  all_goals exact aY hF (by unfold fdv;rw [if_pos hb])
 ·have h0:g .q .lss b 1=false:=by rw [bk hg];simpa using hb
  rw [h0]
  cbv
  refine Fl hg (by omega) ?_
  cbv
  refine Fl hg (by omega) ?_
  cbv
  repeat'(first|(split<;>rename_i hh<;>(try rw [hh])<;>(try simp only [dl hg]at hh)<;>cbv))
  all_goals exact aY hF (by unfold fdv;simp only [Dn hg,Dq hg,de hg]at *;grind)
theorem bI(a b:Int):PC0 228 [ai a,ai b] (.t (ai (fdv a b))):=by
 refine ae (aN f228) aB func228 fun g F hg hF=> ?_
 cbv
 by_cases hb:b<1
 ·have h0:g .q .lss b 1=true:=by rw [bk hg];simpa using hb
  rw [h0]
  cbv
  all_goals exact aY hF (by unfold fdv;rw [if_pos hb])
 ·have h0:g .q .lss b 1=false:=by rw [bk hg];simpa using hb
  rw [h0]
  cbv
  refine Fl hg (by omega) ?_
  cbv
  refine Fl hg (by omega) ?_
  cbv
  repeat'(first|(split<;>rename_i hh<;>(try rw [hh])<;>(try simp only [dl hg]at hh)<;>cbv))
  all_goals exact aY hF (by unfold fdv;simp only [Dn hg,Dq hg,de hg]at *;grind)
theorem ff(k n b:Int):PC0 223 [.agg [.J k,.J n],ai b] (.t (abl (kn ⟨k,n⟩ b))):=by
 refine ae (aN f223) aB func223 fun g F hg hF=> ?_
 cbv
 repeat'(first|(split<;>rename_i hh<;>(try rw [hh])<;>(try simp only [dl hg]at hh)<;>cbv))
 all_goals exact bn hF (by(try simp only [ib hg,hP hg,bv hg]);simp only [kn];grind)
theorem fk(k n b:Int):PC0 226 [.agg [.J k,.J n],ai b] (.t (abl (kn ⟨k,n⟩ b))):=by
 refine ae (aN f226) aB func226 fun g F hg hF=> ?_
 cbv
 repeat'(first|(split<;>rename_i hh<;>(try rw [hh])<;>(try simp only [dl hg]at hh)<;>cbv))
 all_goals exact bn hF (by(try simp only [ib hg,hP hg,bv hg]);simp only [kn];grind)
theorem fA(k n b:Int):PC0 224 [.agg [.J k,.J n],ai b] (.t (ai (Dj ⟨k,n⟩ b))):=by
 refine ae (aN f224) aB func224 fun g F hg hF=> ?_
 cbv
 repeat'(first|(refine br hg (ff _ _ _) rfl (fun R0 hR0=> ?_);cases R0<;>cbv)|(refine aZ hg (ff _ _ _) rfl (fun R0 hR0=> ?_);cases R0<;>cbv)|((first|refine bm hg (aO _) rfl (fun R0 hR0=> ?_)|refine aU hg (aO _) rfl (fun R0 hR0=> ?_)|refine bm hg (pc _) rfl (fun R0 hR0=> ?_)|refine aU hg (pc _) rfl (fun R0 hR0=> ?_)|refine bm hg (bH _ _) rfl (fun R0 hR0=> ?_)|refine aU hg (bH _ _) rfl (fun R0 hR0=> ?_));cbv)|(split<;>rename_i hh<;>(try rw [hh])<;>(try simp only [dl hg]at hh)<;>cbv))
 all_goals exact aY hF (by(try simp only [fP hg]at *);simp only [Dj];grind)
theorem fF(k n b:Int):PC0 227 [.agg [.J k,.J n],ai b] (.t (ai (Dj ⟨k,n⟩ b))):=by
 refine ae (aN f227) aB func227 fun g F hg hF=> ?_
 cbv
 repeat'(first|(refine br hg (fk _ _ _) rfl (fun R0 hR0=> ?_);cases R0<;>cbv)|(refine aZ hg (fk _ _ _) rfl (fun R0 hR0=> ?_);cases R0<;>cbv)|((first|refine bm hg (bf _) rfl (fun R0 hR0=> ?_)|refine aU hg (bf _) rfl (fun R0 hR0=> ?_)|refine bm hg (ek _ _ _) rfl (fun R0 hR0=> ?_)|refine aU hg (ek _ _ _) rfl (fun R0 hR0=> ?_)|refine bm hg (bI _ _) rfl (fun R0 hR0=> ?_)|refine aU hg (bI _ _) rfl (fun R0 hR0=> ?_));cbv)|(split<;>rename_i hh<;>(try rw [hh])<;>(try simp only [dl hg]at hh)<;>cbv))
 all_goals exact aY hF (by(try simp only [fP hg]at *);simp only [Dj];grind)
theorem dN(k n b:Int):PC0 140 [.agg [.J k,.J n],ai b] (.t (ai (rK ⟨k,n⟩ b))):=by
 refine ae (aN f140) aB func140 fun g F hg hF=> ?_
 cbv
 repeat'(first|(refine br hg (ff _ _ _) rfl (fun R0 hR0=> ?_);cases R0<;>cbv)|(refine aZ hg (ff _ _ _) rfl (fun R0 hR0=> ?_);cases R0<;>cbv)|((first|refine bm hg (aO _) rfl (fun R0 hR0=> ?_)|refine aU hg (aO _) rfl (fun R0 hR0=> ?_)|refine bm hg (fA _ _ _) rfl (fun R0 hR0=> ?_)|refine aU hg (fA _ _ _) rfl (fun R0 hR0=> ?_));cbv)|(split<;>rename_i hh<;>(try rw [hh])<;>(try simp only [dl hg]at hh)<;>cbv))
 all_goals exact aY hF (by simp only [rK];grind)
theorem dQ(k n b:Int):PC0 143 [.agg [.J k,.J n],ai b] (.t (ai (rK ⟨k,n⟩ b))):=by
 refine ae (aN f143) aB func143 fun g F hg hF=> ?_
 cbv
 repeat'(first|(refine br hg (fk _ _ _) rfl (fun R0 hR0=> ?_);cases R0<;>cbv)|(refine aZ hg (fk _ _ _) rfl (fun R0 hR0=> ?_);cases R0<;>cbv)|((first|refine bm hg (bf _) rfl (fun R0 hR0=> ?_)|refine aU hg (bf _) rfl (fun R0 hR0=> ?_)|refine bm hg (fF _ _ _) rfl (fun R0 hR0=> ?_)|refine aU hg (fF _ _ _) rfl (fun R0 hR0=> ?_));cbv)|(split<;>rename_i hh<;>(try rw [hh])<;>(try simp only [dl hg]at hh)<;>cbv))
 all_goals exact aY hF (by simp only [rK];grind)
theorem jh(n m:Int):PC0 139 [ai n,ai m] (.t (ai (orl n m))):=by
 refine ae (aN f139) aB func139 fun g F hg hF=> ?_
 cbv
 repeat'(first|(split<;>rename_i hh<;>(try rw [hh])<;>(try simp only [dl hg]at hh)<;>cbv))
 all_goals exact aY hF (by simp only [orl];grind)
theorem ni(n m:Int):PC0 258 [ai n,ai m] (.t (ai (orl n m))):=by
 refine ae (aN f258) aB func258 fun g F hg hF=> ?_
 cbv
 repeat'(first|(split<;>rename_i hh<;>(try rw [hh])<;>(try simp only [dl hg]at hh)<;>cbv))
 all_goals exact aY hF (by simp only [orl];grind)
abbrev agV(v:bN):AT:= .agg [.J v.kind,.J v.n]
abbrev agP(v:aF):AT:= .agg [.J v.mode,.J v.n]
abbrev agE(e:bq):AT:= .agg [.J e.left,.J e.top,.J e.right,.J e.bottom]
theorem mw(s:bd)(sd:Int)(rtl:Bool):PC0 280 [.agg (lc (bd.c s)),ai sd,abl rtl] (.t (agV (pk s sd rtl))):=by
 obtain⟨⟨a0,a1⟩,⟨a2,a3⟩,⟨a4,a5⟩,⟨a6,a7⟩,⟨a8,a9⟩,⟨a10,a11⟩⟩:=s
 cases rtl<;>(refine ae (aN f280) aB func280 fun g F hg hF=> ?_;cbv;repeat'(first|(split<;>rename_i hh<;>(try rw [hh])<;>(try simp only [dl hg]at hh)<;>cbv)))
 all_goals exact kY hF (by simp only [pk];grind)
theorem dz(a b:Int):PC0 219 [ai a,ai b] (.t (ai (adE a b))):=by
 refine ae (aN f219) aB func219 fun g F hg hF=> ?_
 cbv
 repeat'(first|((first|refine bm hg (bf _) rfl (fun R0 hR0=> ?_)|refine aU hg (bf _) rfl (fun R0 hR0=> ?_));cbv)|(split<;>rename_i hh<;>(try rw [hh])<;>(try simp only [dl hg]at hh)<;>cbv))
 all_goals exact aY hF (by(try simp only [aK hg]at *);subst_vars;rfl)
theorem qT(a b:bq):PC0 241 [agE a,agE b] (.t (agE (FO a b))):=by
 obtain⟨a0,a1,a2,a3⟩:=a
 obtain⟨b0,b1,b2,b3⟩:=b
 refine ae (aN f241) aB func241 fun g F hg hF=> ?_
 cbv
 repeat'(first|((first|refine bm hg (aO _) rfl (fun R0 hR0=> ?_)|refine aU hg (aO _) rfl (fun R0 hR0=> ?_));cbv)|(split<;>rename_i hh<;>(try rw [hh])<;>(try simp only [dl hg]at hh)<;>cbv))
 all_goals exact Bu hF (by(try simp only [aK hg]at *);subst_vars;exact⟨rfl,rfl,rfl,rfl⟩)
theorem rA(a b:bq):PC0 220 [agE a,agE b] (.t (agE (FO a b))):=by
 obtain⟨a0,a1,a2,a3⟩:=a
 obtain⟨b0,b1,b2,b3⟩:=b
 refine ae (aN f220) aB func220 fun g F hg hF=> ?_
 cbv
 repeat'(first|((first|refine bm hg (dz _ _) rfl (fun R0 hR0=> ?_)|refine aU hg (dz _ _) rfl (fun R0 hR0=> ?_));cbv)|(split<;>rename_i hh<;>(try rw [hh])<;>(try simp only [dl hg]at hh)<;>cbv))
 all_goals exact Bu hF (by subst_vars;exact⟨rfl,rfl,rfl,rfl⟩)
theorem gN(l t r b:Int):PC0 203 [agE ⟨l,t,r,b⟩] (.t (ai (adE l r))):=by
 refine ae (aN f203) aB func203 fun g F hg hF=> ?_
 cbv
 repeat'(first|((first|refine bm hg (aO _) rfl (fun R0 hR0=> ?_)|refine aU hg (aO _) rfl (fun R0 hR0=> ?_));cbv)|(split<;>rename_i hh<;>(try rw [hh])<;>(try simp only [dl hg]at hh)<;>cbv))
 all_goals exact aY hF (by(try simp only [aK hg]at *);subst_vars;rfl)
theorem gP(l t r b:Int):PC0 204 [agE ⟨l,t,r,b⟩] (.t (ai (adE t b))):=by
 refine ae (aN f204) aB func204 fun g F hg hF=> ?_
 cbv
 repeat'(first|((first|refine bm hg (aO _) rfl (fun R0 hR0=> ?_)|refine aU hg (aO _) rfl (fun R0 hR0=> ?_));cbv)|(split<;>rename_i hh<;>(try rw [hh])<;>(try simp only [dl hg]at hh)<;>cbv))
 all_goals exact aY hF (by(try simp only [aK hg]at *);subst_vars;rfl)
theorem fE(l t r b:Int):PC0 135 [agE ⟨l,t,r,b⟩] (.t (ai (adE l r))):=by
 refine ae (aN f135) aB func135 fun g F hg hF=> ?_
 cbv
 repeat'(first|((first|refine bm hg (dz _ _) rfl (fun R0 hR0=> ?_)|refine aU hg (dz _ _) rfl (fun R0 hR0=> ?_));cbv)|(split<;>rename_i hh<;>(try rw [hh])<;>(try simp only [dl hg]at hh)<;>cbv))
 all_goals exact aY hF (by subst_vars;rfl)
theorem fG(l t r b:Int):PC0 137 [agE ⟨l,t,r,b⟩] (.t (ai (adE t b))):=by
 refine ae (aN f137) aB func137 fun g F hg hF=> ?_
 cbv
 repeat'(first|((first|refine bm hg (dz _ _) rfl (fun R0 hR0=> ?_)|refine aU hg (dz _ _) rfl (fun R0 hR0=> ?_));cbv)|(split<;>rename_i hh<;>(try rw [hh])<;>(try simp only [dl hg]at hh)<;>cbv))
 all_goals exact aY hF (by subst_vars;rfl)
theorem fW(s:aq):PC0 162 [.agg (lc (aq.c s))] (.t (agE (np s))):=by
 obtain⟨a0,a1,a2,a3,a4,a5,a6,a7,a8,a9,a10,⟨a11,a12⟩,⟨a13,a14⟩,⟨a15,a16⟩,⟨a17,a18⟩,⟨a19,a20⟩,⟨a21,a22⟩,⟨a23,a24⟩,a25,⟨⟨a26,a27⟩,⟨a28,a29⟩,⟨a30,a31⟩,⟨a32,a33⟩,⟨a34,a35⟩,⟨a36,a37⟩⟩,⟨⟨a38,a39⟩,⟨a40,a41⟩,⟨a42,a43⟩,⟨a44,a45⟩,⟨a46,a47⟩,⟨a48,a49⟩⟩,⟨a50,a51,a52,a53⟩,⟨a54,a55,a56,a57⟩,a58,a59⟩:=s
 refine ae (aN f162) aB func162 fun g F hg hF=> ?_
 cbv
 refine BM hg (qT ⟨a50,a51,a52,a53⟩ ⟨a54,a55,a56,a57⟩) rfl (fun R0 R1 R2 R3 hR0 hR1 hR2 hR3=> ?_)
 cbv
 all_goals exact Bu hF (by subst_vars;exact⟨rfl,rfl,rfl,rfl⟩)
theorem eX(s:aq):PC0 136 [.agg (lc (aq.c s))] (.t (agE (np s))):=by
 obtain⟨a0,a1,a2,a3,a4,a5,a6,a7,a8,a9,a10,⟨a11,a12⟩,⟨a13,a14⟩,⟨a15,a16⟩,⟨a17,a18⟩,⟨a19,a20⟩,⟨a21,a22⟩,⟨a23,a24⟩,a25,⟨⟨a26,a27⟩,⟨a28,a29⟩,⟨a30,a31⟩,⟨a32,a33⟩,⟨a34,a35⟩,⟨a36,a37⟩⟩,⟨⟨a38,a39⟩,⟨a40,a41⟩,⟨a42,a43⟩,⟨a44,a45⟩,⟨a46,a47⟩,⟨a48,a49⟩⟩,⟨a50,a51,a52,a53⟩,⟨a54,a55,a56,a57⟩,a58,a59⟩:=s
 refine ae (aN f136) aB func136 fun g F hg hF=> ?_
 cbv
 refine BM hg (rA ⟨a50,a51,a52,a53⟩ ⟨a54,a55,a56,a57⟩) rfl (fun R0 R1 R2 R3 hR0 hR1 hR2 hR3=> ?_)
 cbv
 all_goals exact Bu hF (by subst_vars;exact⟨rfl,rfl,rfl,rfl⟩)
theorem gA(s:aq)(w:Bool):PC0 118 [.agg (lc (aq.c s)),abl w] (.t (ai (r8 s w))):=by
 cases w<;>(refine ae (aN f118) aB func118 fun g F hg hF=> ?_;cbv;repeat'(first|((first|refine BM hg (fW s) rfl (fun R0 R1 R2 R3 hR0 hR1 hR2 hR3=> ?_)|refine CH hg (fW s) rfl (fun R0 R1 R2 R3 hR0 hR1 hR2 hR3=> ?_)|refine bm hg (gN _ _ _ _) rfl (fun R0 hR0=> ?_)|refine aU hg (gN _ _ _ _) rfl (fun R0 hR0=> ?_)|refine bm hg (gP _ _ _ _) rfl (fun R0 hR0=> ?_)|refine aU hg (gP _ _ _ _) rfl (fun R0 hR0=> ?_));cbv)|(split<;>rename_i hh<;>(try rw [hh])<;>(try simp only [dl hg]at hh)<;>cbv)))
 all_goals exact aY hF (by subst_vars;rfl)
theorem jO(s:aq)(w:Bool):PC0 257 [.agg (lc (aq.c s)),abl w] (.t (ai (r8 s w))):=by
 cases w<;>(refine ae (aN f257) aB func257 fun g F hg hF=> ?_;cbv;repeat'(first|((first|refine BM hg (eX s) rfl (fun R0 R1 R2 R3 hR0 hR1 hR2 hR3=> ?_)|refine CH hg (eX s) rfl (fun R0 R1 R2 R3 hR0 hR1 hR2 hR3=> ?_)|refine bm hg (fE _ _ _ _) rfl (fun R0 hR0=> ?_)|refine aU hg (fE _ _ _ _) rfl (fun R0 hR0=> ?_)|refine bm hg (fG _ _ _ _) rfl (fun R0 hR0=> ?_)|refine aU hg (fG _ _ _ _) rfl (fun R0 hR0=> ?_));cbv)|(split<;>rename_i hh<;>(try rw [hh])<;>(try simp only [dl hg]at hh)<;>cbv)))
 all_goals exact aY hF (by subst_vars;rfl)
theorem eb(w:Bool)(a b c d:Int):PC0 199 [abl w,.agg [.J a,.J b],.agg [.J c,.J d]] (.t (agV (if w then⟨a,b⟩else⟨c,d⟩))):=by
 cases w<;>(refine ae (aN f199) aB func199 fun g F hg hF=> ?_;cbv;repeat'(first|(split<;>rename_i hh<;>(try rw [hh])<;>(try simp only [dl hg]at hh)<;>cbv)))
 all_goals exact kY hF (by exact⟨rfl,rfl⟩)
theorem fM(w:Bool)(a b c d:Int):PC0 212 [abl w,.agg [.J a,.J b],.agg [.J c,.J d]] (.t (agV (if w then⟨a,b⟩else⟨c,d⟩))):=by
 cases w<;>(refine ae (aN f212) aB func212 fun g F hg hF=> ?_;cbv;repeat'(first|(split<;>rename_i hh<;>(try rw [hh])<;>(try simp only [dl hg]at hh)<;>cbv)))
 all_goals exact kY hF (by exact⟨rfl,rfl⟩)
theorem iz(s:aq)(w:Bool)(b:Int):PC0 172 [.agg (lc (aq.c s)),abl w,ai b] (.t (ai (zA s w b))):=by
 obtain⟨a0,a1,a2,a3,a4,a5,a6,a7,a8,a9,a10,⟨a11,a12⟩,⟨a13,a14⟩,⟨a15,a16⟩,⟨a17,a18⟩,⟨a19,a20⟩,⟨a21,a22⟩,⟨a23,a24⟩,a25,⟨⟨a26,a27⟩,⟨a28,a29⟩,⟨a30,a31⟩,⟨a32,a33⟩,⟨a34,a35⟩,⟨a36,a37⟩⟩,⟨⟨a38,a39⟩,⟨a40,a41⟩,⟨a42,a43⟩,⟨a44,a45⟩,⟨a46,a47⟩,⟨a48,a49⟩⟩,⟨a50,a51,a52,a53⟩,⟨a54,a55,a56,a57⟩,a58,a59⟩:=s
 have zc1:=gA (⟨a0,a1,a2,a3,a4,a5,a6,a7,a8,a9,a10,⟨a11,a12⟩,⟨a13,a14⟩,⟨a15,a16⟩,⟨a17,a18⟩,⟨a19,a20⟩,⟨a21,a22⟩,⟨a23,a24⟩,a25,⟨⟨a26,a27⟩,⟨a28,a29⟩,⟨a30,a31⟩,⟨a32,a33⟩,⟨a34,a35⟩,⟨a36,a37⟩⟩,⟨⟨a38,a39⟩,⟨a40,a41⟩,⟨a42,a43⟩,⟨a44,a45⟩,⟨a46,a47⟩,⟨a48,a49⟩⟩,⟨a50,a51,a52,a53⟩,⟨a54,a55,a56,a57⟩,a58,a59⟩:aq)
 cases w<;>(refine ae (aN f172) aB func172 fun g F hg hF=> ?_;cbv;repeat'(first|((first|refine nY hg (eb _ _ _ _ _) rfl (fun R0 R1 hR0 hR1=> ?_)|refine jb hg (eb _ _ _ _ _) rfl (fun R0 R1 hR0 hR1=> ?_)|refine bm hg (dN _ _ _) rfl (fun R0 hR0=> ?_)|refine aU hg (dN _ _ _) rfl (fun R0 hR0=> ?_)|refine bm hg (jh _ _) rfl (fun R0 hR0=> ?_)|refine aU hg (jh _ _) rfl (fun R0 hR0=> ?_)|refine bm hg (zc1 _) rfl (fun R0 hR0=> ?_)|refine aU hg (zc1 _) rfl (fun R0 hR0=> ?_));cbv)|(split<;>rename_i hh<;>(try rw [hh])<;>(try simp only [dl hg]at hh)<;>cbv)))
 all_goals exact aY hF (by simp only [zA];subst_vars;first|rfl|(split<;>first|rfl|contradiction|omega)|grind)
theorem iE(s:aq)(w:Bool)(b:Int):PC0 180 [.agg (lc (aq.c s)),abl w,ai b] (.t (ai (zA s w b))):=by
 cases w<;>(refine ae (aN f180) aB func180 fun g F hg hF=> ?_;cbv;repeat'(first|((first|refine nY hg (fM _ _ _ _ _) rfl (fun R0 R1 hR0 hR1=> ?_)|refine jb hg (fM _ _ _ _ _) rfl (fun R0 R1 hR0 hR1=> ?_)|refine bm hg (dQ _ _ _) rfl (fun R0 hR0=> ?_)|refine aU hg (dQ _ _ _) rfl (fun R0 hR0=> ?_)|refine bm hg (ni _ _) rfl (fun R0 hR0=> ?_)|refine aU hg (ni _ _) rfl (fun R0 hR0=> ?_)|refine bm hg (jO s _) rfl (fun R0 hR0=> ?_)|refine aU hg (jO s _) rfl (fun R0 hR0=> ?_));cbv)|(split<;>rename_i hh<;>(try rw [hh])<;>(try simp only [dl hg]at hh)<;>cbv)))
 all_goals exact aY hF (by simp only [zA,Cx hg];subst_vars;first|rfl|(split<;>first|rfl|contradiction|omega)|grind)
theorem ji(s:aq)(w:Bool)(b:Int):PC0 173 [.agg (lc (aq.c s)),abl w,ai b] (.t (ai (Au s w b))):=by
 cases w<;>(refine ae (aN f173) aB func173 fun g F hg hF=> ?_;cbv;repeat'(first|((first|refine nY hg (eb _ _ _ _ _) rfl (fun R0 R1 hR0 hR1=> ?_)|refine jb hg (eb _ _ _ _ _) rfl (fun R0 R1 hR0 hR1=> ?_)|refine bm hg (dN _ _ _) rfl (fun R0 hR0=> ?_)|refine aU hg (dN _ _ _) rfl (fun R0 hR0=> ?_));cbv)|(split<;>rename_i hh<;>(try rw [hh])<;>(try simp only [dl hg]at hh)<;>cbv)))
 all_goals exact aY hF (by subst_vars;rfl)
theorem jt(s:aq)(w:Bool)(b:Int):PC0 181 [.agg (lc (aq.c s)),abl w,ai b] (.t (ai (Au s w b))):=by
 cases w<;>(refine ae (aN f181) aB func181 fun g F hg hF=> ?_;cbv;repeat'(first|((first|refine nY hg (fM _ _ _ _ _) rfl (fun R0 R1 hR0 hR1=> ?_)|refine jb hg (fM _ _ _ _ _) rfl (fun R0 R1 hR0 hR1=> ?_)|refine bm hg (dQ _ _ _) rfl (fun R0 hR0=> ?_)|refine aU hg (dQ _ _ _) rfl (fun R0 hR0=> ?_));cbv)|(split<;>rename_i hh<;>(try rw [hh])<;>(try simp only [dl hg]at hh)<;>cbv)))
 all_goals exact aY hF (by subst_vars;rfl)
theorem ec(s:aq)(w:Bool)(b:Int):PC0 110 [.agg (lc (aq.c s)),abl w,ai b] (.t (ai (oQ s w b))):=by
 cases w<;>(refine ae (aN f110) aB func110 fun g F hg hF=> ?_;cbv;repeat'(first|((first|refine nY hg (eb _ _ _ _ _) rfl (fun R0 R1 hR0 hR1=> ?_)|refine jb hg (eb _ _ _ _ _) rfl (fun R0 R1 hR0 hR1=> ?_)|refine bm hg (dN _ _ _) rfl (fun R0 hR0=> ?_)|refine aU hg (dN _ _ _) rfl (fun R0 hR0=> ?_));cbv)|(split<;>rename_i hh<;>(try rw [hh])<;>(try simp only [dl hg]at hh)<;>cbv)))
 all_goals exact aY hF (by subst_vars;rfl)
theorem ej(s:aq)(w:Bool)(b:Int):PC0 125 [.agg (lc (aq.c s)),abl w,ai b] (.t (ai (oQ s w b))):=by
 cases w<;>(refine ae (aN f125) aB func125 fun g F hg hF=> ?_;cbv;repeat'(first|((first|refine nY hg (fM _ _ _ _ _) rfl (fun R0 R1 hR0 hR1=> ?_)|refine jb hg (fM _ _ _ _ _) rfl (fun R0 R1 hR0 hR1=> ?_)|refine bm hg (dQ _ _ _) rfl (fun R0 hR0=> ?_)|refine aU hg (dQ _ _ _) rfl (fun R0 hR0=> ?_));cbv)|(split<;>rename_i hh<;>(try rw [hh])<;>(try simp only [dl hg]at hh)<;>cbv)))
 all_goals exact aY hF (by subst_vars;rfl)
theorem ch(s:aq)(w:Bool)(b n:Int):PC0 111 [.agg (lc (aq.c s)),abl w,ai b,ai n] (.t (ai (jR s w b n))):=by
 refine ae (aN f111) aB func111 fun g F hg hF=> ?_
 cbv
 repeat'(first|((first|refine bm hg (iz s _ _) rfl (fun R0 hR0=> ?_)|refine aU hg (iz s _ _) rfl (fun R0 hR0=> ?_)|refine bm hg (ji s _ _) rfl (fun R0 hR0=> ?_)|refine aU hg (ji s _ _) rfl (fun R0 hR0=> ?_)|refine bm hg (jg _ _ _) rfl (fun R0 hR0=> ?_)|refine aU hg (jg _ _ _) rfl (fun R0 hR0=> ?_)|refine bm hg (aO _) rfl (fun R0 hR0=> ?_)|refine aU hg (aO _) rfl (fun R0 hR0=> ?_));cbv)|(split<;>rename_i hh<;>(try rw [hh])<;>(try simp only [dl hg]at hh)<;>cbv))
 all_goals exact aY hF (by subst_vars;rfl)
theorem dd(s:aq)(w:Bool)(b n:Int):PC0 127 [.agg (lc (aq.c s)),abl w,ai b,ai n] (.t (ai (jR s w b n))):=by
 refine ae (aN f127) aB func127 fun g F hg hF=> ?_
 cbv
 repeat'(first|((first|refine bm hg (iE s _ _) rfl (fun R0 hR0=> ?_)|refine aU hg (iE s _ _) rfl (fun R0 hR0=> ?_)|refine bm hg (jt s _ _) rfl (fun R0 hR0=> ?_)|refine aU hg (jt s _ _) rfl (fun R0 hR0=> ?_)|refine bm hg (jr _ _ _) rfl (fun R0 hR0=> ?_)|refine aU hg (jr _ _ _) rfl (fun R0 hR0=> ?_)|refine bm hg (bf _) rfl (fun R0 hR0=> ?_)|refine aU hg (bf _) rfl (fun R0 hR0=> ?_));cbv)|(split<;>rename_i hh<;>(try rw [hh])<;>(try simp only [dl hg]at hh)<;>cbv))
 all_goals exact aY hF (by subst_vars;rfl)
end Go.Proofs.YtdnnffbbhijmkaaGreat
