/- Boxes without their edges, spaces of a root, frames in bounds. -/
import Derived.Test.YtdnnffbbhijmkaaGreatKas
set_option linter.unusedVariables false
set_option linter.unusedSimpArgs false
set_option maxHeartbeats 4000000
namespace Go.Proofs.YtdnnffbbhijmkaaGreat
open Go.ChangeShapes Go.WideShapes Go.ChangeAt Go.RowKit Am Go.Proofs.Tryz
set_option maxRecDepth 100000
def bro(n l m:Int):Int:=if m<l∨n<l then l else if m<n then m else n
def cl(n:Int):Int:=bro n 0 1048576
def sg(n:Int):Int:=bro n (-1048576) 1048576
def fdv(a b:Int):Int:=if b<1 then 0 else if a.tmod b<0 then wrap64 (wrap64 (a.tdiv b)-1)else wrap64 (a.tdiv b)
def kn(v:bO)(base:Int):Bool:=decide (v.kind=1)||(decide (v.kind=2)&&decide (0≤base))
def DD(v:bO)(base:Int):Int:=if kn v base=false then-1 else if v.kind=1 then v.n else fdv (wrap64 (cl base*bro v.n (-1000000) 1000000)) 100
def rO(v:bO)(base:Int):Int:=if kn v base=false then-1 else cl (DD v base)
def orl(n m:Int):Int:=if n= -1 then m else n
def pr(s:bd)(sd:Int)(rtl:Bool):bO:=
 if sd=1 then s.top else if sd=3 then s.bottom
 else if sd=0 then(if(if rtl then s.fin else s.start).kind≠0 then(if rtl then s.fin else s.start)else s.left)
 else if sd=2 then(if(if rtl then s.start else s.fin).kind≠0 then(if rtl then s.start else s.fin)else s.right)else⟨0,0⟩
def adE(a b:Int):Int:=cl (wrap64 (cl a+cl b))
def Gf(a b:bv):bv:=⟨adE a.left b.left,adE a.top b.top,adE a.right b.right,adE a.bottom b.bottom⟩
def nw(s:ar):bv:=Gf s.pad s.border
def sj(s:ar)(wide:Bool):Int:=if wide then adE (nw s).left (nw s).right else adE (nw s).top (nw s).bottom
def zK(s:ar)(wide:Bool)(base:Int):Int:=if sj s wide<orl (rO (if wide then s.minWidth else s.minHeight) base) 0 then orl (rO (if wide then s.minWidth else s.minHeight) base) 0 else sj s wide
def AO(s:ar)(wide:Bool)(base:Int):Int:=rO (if wide then s.maxWidth else s.maxHeight) base
def ox(s:ar)(wide:Bool)(base n:Int):Int:=cl (gK n (zK s wide base) (AO s wide base))
def qr(s:ar)(wide:Bool)(base:Int):Int:=rO (if wide then s.width else s.height) base
theorem eb(n l m:Int):PC0 282 [ai n,ai l,ai m] (.t (ai (bro n l m))):=by
 refine ae (aN f282) aD func282 fun g F hg hF=> ?_
 cbv
 repeat'(first|(split<;>rename_i hh<;>(try rw [hh])<;>(try simp only [dm hg]at hh)<;>cbv))
 all_goals exact aV hF (by unfold bro;grind)
theorem ef(n l m:Int):PC0 298 [ai n,ai l,ai m] (.t (ai (bro n l m))):=by
 refine ae (aN f298) aD func298 fun g F hg hF=> ?_
 cbv
 repeat'(first|(split<;>rename_i hh<;>(try rw [hh])<;>(try simp only [dm hg]at hh)<;>cbv))
 all_goals exact aV hF (by unfold bro;grind)
theorem bG(n l m:Int):PC0 149 [ai n,ai l,ai m] (.t (abl (decide (l≤n)&&decide (n≤m)))):=by
 refine ae (aN f149) aD func149 fun g F hg hF=> ?_
 cbv
 repeat'(first|(split<;>rename_i hh<;>(try rw [hh])<;>(try simp only [dm hg]at hh)<;>cbv))
 all_goals exact bm hF (by(try simp only [ig hg,ib hg]);grind)
theorem cY(n l m:Int):PC0 154 [ai n,ai l,ai m] (.t (abl (decide (l≤n)&&decide (n≤m)))):=by
 refine ae (aN f154) aD func154 fun g F hg hF=> ?_
 cbv
 repeat'(first|(split<;>rename_i hh<;>(try rw [hh])<;>(try simp only [dm hg]at hh)<;>cbv))
 all_goals exact bm hF (by(try simp only [ig hg,ib hg]);grind)
theorem aO(n:Int):PC0 200 [ai n] (.t (ai (cl n))):=by
 refine ae (aN f200) aD func200 fun g F hg hF=> ?_
 cbv
 repeat'(first|((first|refine br hg (eb _ _ _) rfl (fun R0 hR0=> ?_)|refine aY hg (eb _ _ _) rfl (fun R0 hR0=> ?_));cbv)|(split<;>rename_i hh<;>(try rw [hh])<;>(try simp only [dm hg]at hh)<;>cbv))
 all_goals exact aV hF (by subst_vars;rfl)
theorem bf(n:Int):PC0 213 [ai n] (.t (ai (cl n))):=by
 refine ae (aN f213) aD func213 fun g F hg hF=> ?_
 cbv
 repeat'(first|((first|refine br hg (ef _ _ _) rfl (fun R0 hR0=> ?_)|refine aY hg (ef _ _ _) rfl (fun R0 hR0=> ?_));cbv)|(split<;>rename_i hh<;>(try rw [hh])<;>(try simp only [dm hg]at hh)<;>cbv))
 all_goals exact aV hF (by subst_vars;rfl)
theorem bP(n:Int):PC0 281 [ai n] (.t (ai (sg n))):=by
 refine ae (aN f281) aD func281 fun g F hg hF=> ?_
 cbv
 repeat'(first|((first|refine br hg (eb _ _ _) rfl (fun R0 hR0=> ?_)|refine aY hg (eb _ _ _) rfl (fun R0 hR0=> ?_));cbv)|(split<;>rename_i hh<;>(try rw [hh])<;>(try simp only [dm hg]at hh)<;>cbv))
 all_goals exact aV hF (by subst_vars;rfl)
theorem bX(n:Int):PC0 299 [ai n] (.t (ai (sg n))):=by
 refine ae (aN f299) aD func299 fun g F hg hF=> ?_
 cbv
 repeat'(first|((first|refine br hg (ef _ _ _) rfl (fun R0 hR0=> ?_)|refine aY hg (ef _ _ _) rfl (fun R0 hR0=> ?_));cbv)|(split<;>rename_i hh<;>(try rw [hh])<;>(try simp only [dm hg]at hh)<;>cbv))
 all_goals exact aV hF (by subst_vars;rfl)
theorem pk(n:Int):PC0 304 [ai n] (.t (ai (bro n (-1000000) 1000000))):=by
 refine ae (aN f304) aD func304 fun g F hg hF=> ?_
 cbv
 repeat'(first|((first|refine br hg (eb _ _ _) rfl (fun R0 hR0=> ?_)|refine aY hg (eb _ _ _) rfl (fun R0 hR0=> ?_));cbv)|(split<;>rename_i hh<;>(try rw [hh])<;>(try simp only [dm hg]at hh)<;>cbv))
 all_goals exact aV hF (by subst_vars;rfl)
theorem bH(a b:Int):PC0 225 [ai a,ai b] (.t (ai (fdv a b))):=by
 refine ae (aN f225) aD func225 fun g F hg hF=> ?_
 cbv
 by_cases hb:b<1
 ·have h0:g .q .lss b 1=true:=by rw [bn hg];simpa using hb
  rw [h0]
  cbv
  all_goals exact aV hF (by unfold fdv;rw [if_pos hb])
 ·have h0:g .q .lss b 1=false:=by rw [bn hg];simpa using hb
  rw [h0]
  cbv
  refine FH hg (by omega) ?_
  cbv
  refine FH hg (by omega) ?_
  cbv
  repeat'(first|(split<;>rename_i hh<;>(try rw [hh])<;>(try simp only [dm hg]at hh)<;>cbv))
  all_goals exact aV hF (by unfold fdv;simp only [DH hg,DI hg,dc hg]at *;grind)
theorem bI(a b:Int):PC0 228 [ai a,ai b] (.t (ai (fdv a b))):=by
 refine ae (aN f228) aD func228 fun g F hg hF=> ?_
 cbv
 by_cases hb:b<1
 ·have h0:g .q .lss b 1=true:=by rw [bn hg];simpa using hb
  rw [h0]
  cbv
  all_goals exact aV hF (by unfold fdv;rw [if_pos hb])
 ·have h0:g .q .lss b 1=false:=by rw [bn hg];simpa using hb
  rw [h0]
  cbv
  refine FH hg (by omega) ?_
  cbv
  refine FH hg (by omega) ?_
  cbv
  repeat'(first|(split<;>rename_i hh<;>(try rw [hh])<;>(try simp only [dm hg]at hh)<;>cbv))
  all_goals exact aV hF (by unfold fdv;simp only [DH hg,DI hg,dc hg]at *;grind)
theorem fc(k n b:Int):PC0 223 [.agg [.J k,.J n],ai b] (.t (abl (kn ⟨k,n⟩ b))):=by
 refine ae (aN f223) aD func223 fun g F hg hF=> ?_
 cbv
 repeat'(first|(split<;>rename_i hh<;>(try rw [hh])<;>(try simp only [dm hg]at hh)<;>cbv))
 all_goals exact bm hF (by(try simp only [ig hg,ib hg,bq hg]);simp only [kn];grind)
theorem fi(k n b:Int):PC0 226 [.agg [.J k,.J n],ai b] (.t (abl (kn ⟨k,n⟩ b))):=by
 refine ae (aN f226) aD func226 fun g F hg hF=> ?_
 cbv
 repeat'(first|(split<;>rename_i hh<;>(try rw [hh])<;>(try simp only [dm hg]at hh)<;>cbv))
 all_goals exact bm hF (by(try simp only [ig hg,ib hg,bq hg]);simp only [kn];grind)
theorem fu(k n b:Int):PC0 224 [.agg [.J k,.J n],ai b] (.t (ai (DD ⟨k,n⟩ b))):=by
 refine ae (aN f224) aD func224 fun g F hg hF=> ?_
 cbv
 repeat'(first|(refine bu hg (fc _ _ _) rfl (fun R0 hR0=> ?_);cases R0<;>cbv)|(refine aZ hg (fc _ _ _) rfl (fun R0 hR0=> ?_);cases R0<;>cbv)|((first|refine br hg (aO _) rfl (fun R0 hR0=> ?_)|refine aY hg (aO _) rfl (fun R0 hR0=> ?_)|refine br hg (pk _) rfl (fun R0 hR0=> ?_)|refine aY hg (pk _) rfl (fun R0 hR0=> ?_)|refine br hg (bH _ _) rfl (fun R0 hR0=> ?_)|refine aY hg (bH _ _) rfl (fun R0 hR0=> ?_));cbv)|(split<;>rename_i hh<;>(try rw [hh])<;>(try simp only [dm hg]at hh)<;>cbv))
 all_goals exact aV hF (by(try simp only [fN hg]at *);simp only [DD];grind)
theorem fB(k n b:Int):PC0 227 [.agg [.J k,.J n],ai b] (.t (ai (DD ⟨k,n⟩ b))):=by
 refine ae (aN f227) aD func227 fun g F hg hF=> ?_
 cbv
 repeat'(first|(refine bu hg (fi _ _ _) rfl (fun R0 hR0=> ?_);cases R0<;>cbv)|(refine aZ hg (fi _ _ _) rfl (fun R0 hR0=> ?_);cases R0<;>cbv)|((first|refine br hg (bf _) rfl (fun R0 hR0=> ?_)|refine aY hg (bf _) rfl (fun R0 hR0=> ?_)|refine br hg (ef _ _ _) rfl (fun R0 hR0=> ?_)|refine aY hg (ef _ _ _) rfl (fun R0 hR0=> ?_)|refine br hg (bI _ _) rfl (fun R0 hR0=> ?_)|refine aY hg (bI _ _) rfl (fun R0 hR0=> ?_));cbv)|(split<;>rename_i hh<;>(try rw [hh])<;>(try simp only [dm hg]at hh)<;>cbv))
 all_goals exact aV hF (by(try simp only [fN hg]at *);simp only [DD];grind)
theorem dL(k n b:Int):PC0 140 [.agg [.J k,.J n],ai b] (.t (ai (rO ⟨k,n⟩ b))):=by
 refine ae (aN f140) aD func140 fun g F hg hF=> ?_
 cbv
 repeat'(first|(refine bu hg (fc _ _ _) rfl (fun R0 hR0=> ?_);cases R0<;>cbv)|(refine aZ hg (fc _ _ _) rfl (fun R0 hR0=> ?_);cases R0<;>cbv)|((first|refine br hg (aO _) rfl (fun R0 hR0=> ?_)|refine aY hg (aO _) rfl (fun R0 hR0=> ?_)|refine br hg (fu _ _ _) rfl (fun R0 hR0=> ?_)|refine aY hg (fu _ _ _) rfl (fun R0 hR0=> ?_));cbv)|(split<;>rename_i hh<;>(try rw [hh])<;>(try simp only [dm hg]at hh)<;>cbv))
 all_goals exact aV hF (by simp only [rO];grind)
theorem dP(k n b:Int):PC0 143 [.agg [.J k,.J n],ai b] (.t (ai (rO ⟨k,n⟩ b))):=by
 refine ae (aN f143) aD func143 fun g F hg hF=> ?_
 cbv
 repeat'(first|(refine bu hg (fi _ _ _) rfl (fun R0 hR0=> ?_);cases R0<;>cbv)|(refine aZ hg (fi _ _ _) rfl (fun R0 hR0=> ?_);cases R0<;>cbv)|((first|refine br hg (bf _) rfl (fun R0 hR0=> ?_)|refine aY hg (bf _) rfl (fun R0 hR0=> ?_)|refine br hg (fB _ _ _) rfl (fun R0 hR0=> ?_)|refine aY hg (fB _ _ _) rfl (fun R0 hR0=> ?_));cbv)|(split<;>rename_i hh<;>(try rw [hh])<;>(try simp only [dm hg]at hh)<;>cbv))
 all_goals exact aV hF (by simp only [rO];grind)
theorem jj(n m:Int):PC0 139 [ai n,ai m] (.t (ai (orl n m))):=by
 refine ae (aN f139) aD func139 fun g F hg hF=> ?_
 cbv
 repeat'(first|(split<;>rename_i hh<;>(try rw [hh])<;>(try simp only [dm hg]at hh)<;>cbv))
 all_goals exact aV hF (by simp only [orl];grind)
theorem nq(n m:Int):PC0 258 [ai n,ai m] (.t (ai (orl n m))):=by
 refine ae (aN f258) aD func258 fun g F hg hF=> ?_
 cbv
 repeat'(first|(split<;>rename_i hh<;>(try rw [hh])<;>(try simp only [dm hg]at hh)<;>cbv))
 all_goals exact aV hF (by simp only [orl];grind)
abbrev agV(v:bO):AT:= .agg [.J v.kind,.J v.n]
abbrev agP(v:ay):AT:= .agg [.J v.mode,.J v.n]
abbrev agE(e:bv):AT:= .agg [.J e.left,.J e.top,.J e.right,.J e.bottom]
theorem mE(s:bd)(sd:Int)(rtl:Bool):PC0 280 [.agg (lc (bd.c s)),ai sd,abl rtl] (.t (agV (pr s sd rtl))):=by
 obtain⟨⟨a0,a1⟩,⟨a2,a3⟩,⟨a4,a5⟩,⟨a6,a7⟩,⟨a8,a9⟩,⟨a10,a11⟩⟩:=s
 cases rtl<;>(refine ae (aN f280) aD func280 fun g F hg hF=> ?_;cbv;repeat'(first|(split<;>rename_i hh<;>(try rw [hh])<;>(try simp only [dm hg]at hh)<;>cbv)))
 all_goals exact ml hF (by simp only [pr];grind)
theorem dy(a b:Int):PC0 219 [ai a,ai b] (.t (ai (adE a b))):=by
 refine ae (aN f219) aD func219 fun g F hg hF=> ?_
 cbv
 repeat'(first|((first|refine br hg (bf _) rfl (fun R0 hR0=> ?_)|refine aY hg (bf _) rfl (fun R0 hR0=> ?_));cbv)|(split<;>rename_i hh<;>(try rw [hh])<;>(try simp only [dm hg]at hh)<;>cbv))
 all_goals exact aV hF (by(try simp only [aK hg]at *);subst_vars;rfl)
theorem qU(a b:bv):PC0 241 [agE a,agE b] (.t (agE (Gf a b))):=by
 obtain⟨a0,a1,a2,a3⟩:=a
 obtain⟨b0,b1,b2,b3⟩:=b
 refine ae (aN f241) aD func241 fun g F hg hF=> ?_
 cbv
 repeat'(first|((first|refine br hg (aO _) rfl (fun R0 hR0=> ?_)|refine aY hg (aO _) rfl (fun R0 hR0=> ?_));cbv)|(split<;>rename_i hh<;>(try rw [hh])<;>(try simp only [dm hg]at hh)<;>cbv))
 all_goals exact BQ hF (by(try simp only [aK hg]at *);subst_vars;exact⟨rfl,rfl,rfl,rfl⟩)
theorem rC(a b:bv):PC0 220 [agE a,agE b] (.t (agE (Gf a b))):=by
 obtain⟨a0,a1,a2,a3⟩:=a
 obtain⟨b0,b1,b2,b3⟩:=b
 refine ae (aN f220) aD func220 fun g F hg hF=> ?_
 cbv
 repeat'(first|((first|refine br hg (dy _ _) rfl (fun R0 hR0=> ?_)|refine aY hg (dy _ _) rfl (fun R0 hR0=> ?_));cbv)|(split<;>rename_i hh<;>(try rw [hh])<;>(try simp only [dm hg]at hh)<;>cbv))
 all_goals exact BQ hF (by subst_vars;exact⟨rfl,rfl,rfl,rfl⟩)
theorem gM(l t r b:Int):PC0 203 [agE ⟨l,t,r,b⟩] (.t (ai (adE l r))):=by
 refine ae (aN f203) aD func203 fun g F hg hF=> ?_
 cbv
 repeat'(first|((first|refine br hg (aO _) rfl (fun R0 hR0=> ?_)|refine aY hg (aO _) rfl (fun R0 hR0=> ?_));cbv)|(split<;>rename_i hh<;>(try rw [hh])<;>(try simp only [dm hg]at hh)<;>cbv))
 all_goals exact aV hF (by(try simp only [aK hg]at *);subst_vars;rfl)
theorem gO(l t r b:Int):PC0 204 [agE ⟨l,t,r,b⟩] (.t (ai (adE t b))):=by
 refine ae (aN f204) aD func204 fun g F hg hF=> ?_
 cbv
 repeat'(first|((first|refine br hg (aO _) rfl (fun R0 hR0=> ?_)|refine aY hg (aO _) rfl (fun R0 hR0=> ?_));cbv)|(split<;>rename_i hh<;>(try rw [hh])<;>(try simp only [dm hg]at hh)<;>cbv))
 all_goals exact aV hF (by(try simp only [aK hg]at *);subst_vars;rfl)
theorem fA(l t r b:Int):PC0 135 [agE ⟨l,t,r,b⟩] (.t (ai (adE l r))):=by
 refine ae (aN f135) aD func135 fun g F hg hF=> ?_
 cbv
 repeat'(first|((first|refine br hg (dy _ _) rfl (fun R0 hR0=> ?_)|refine aY hg (dy _ _) rfl (fun R0 hR0=> ?_));cbv)|(split<;>rename_i hh<;>(try rw [hh])<;>(try simp only [dm hg]at hh)<;>cbv))
 all_goals exact aV hF (by subst_vars;rfl)
theorem fC(l t r b:Int):PC0 137 [agE ⟨l,t,r,b⟩] (.t (ai (adE t b))):=by
 refine ae (aN f137) aD func137 fun g F hg hF=> ?_
 cbv
 repeat'(first|((first|refine br hg (dy _ _) rfl (fun R0 hR0=> ?_)|refine aY hg (dy _ _) rfl (fun R0 hR0=> ?_));cbv)|(split<;>rename_i hh<;>(try rw [hh])<;>(try simp only [dm hg]at hh)<;>cbv))
 all_goals exact aV hF (by subst_vars;rfl)
theorem fU(s:ar):PC0 162 [.agg (lc (ar.c s))] (.t (agE (nw s))):=by
 obtain⟨a0,a1,a2,a3,a4,a5,a6,a7,a8,a9,a10,⟨a11,a12⟩,⟨a13,a14⟩,⟨a15,a16⟩,⟨a17,a18⟩,⟨a19,a20⟩,⟨a21,a22⟩,⟨a23,a24⟩,a25,⟨⟨a26,a27⟩,⟨a28,a29⟩,⟨a30,a31⟩,⟨a32,a33⟩,⟨a34,a35⟩,⟨a36,a37⟩⟩,⟨⟨a38,a39⟩,⟨a40,a41⟩,⟨a42,a43⟩,⟨a44,a45⟩,⟨a46,a47⟩,⟨a48,a49⟩⟩,⟨a50,a51,a52,a53⟩,⟨a54,a55,a56,a57⟩,a58,a59⟩:=s
 refine ae (aN f162) aD func162 fun g F hg hF=> ?_
 cbv
 refine Ca hg (qU ⟨a50,a51,a52,a53⟩ ⟨a54,a55,a56,a57⟩) rfl (fun R0 R1 R2 R3 hR0 hR1 hR2 hR3=> ?_)
 cbv
 all_goals exact BQ hF (by subst_vars;exact⟨rfl,rfl,rfl,rfl⟩)
theorem eU(s:ar):PC0 136 [.agg (lc (ar.c s))] (.t (agE (nw s))):=by
 obtain⟨a0,a1,a2,a3,a4,a5,a6,a7,a8,a9,a10,⟨a11,a12⟩,⟨a13,a14⟩,⟨a15,a16⟩,⟨a17,a18⟩,⟨a19,a20⟩,⟨a21,a22⟩,⟨a23,a24⟩,a25,⟨⟨a26,a27⟩,⟨a28,a29⟩,⟨a30,a31⟩,⟨a32,a33⟩,⟨a34,a35⟩,⟨a36,a37⟩⟩,⟨⟨a38,a39⟩,⟨a40,a41⟩,⟨a42,a43⟩,⟨a44,a45⟩,⟨a46,a47⟩,⟨a48,a49⟩⟩,⟨a50,a51,a52,a53⟩,⟨a54,a55,a56,a57⟩,a58,a59⟩:=s
 refine ae (aN f136) aD func136 fun g F hg hF=> ?_
 cbv
 refine Ca hg (rC ⟨a50,a51,a52,a53⟩ ⟨a54,a55,a56,a57⟩) rfl (fun R0 R1 R2 R3 hR0 hR1 hR2 hR3=> ?_)
 cbv
 all_goals exact BQ hF (by subst_vars;exact⟨rfl,rfl,rfl,rfl⟩)
theorem gB(s:ar)(w:Bool):PC0 118 [.agg (lc (ar.c s)),abl w] (.t (ai (sj s w))):=by
 cases w<;>(refine ae (aN f118) aD func118 fun g F hg hF=> ?_;cbv;repeat'(first|((first|refine Ca hg (fU s) rfl (fun R0 R1 R2 R3 hR0 hR1 hR2 hR3=> ?_)|refine CY hg (fU s) rfl (fun R0 R1 R2 R3 hR0 hR1 hR2 hR3=> ?_)|refine br hg (gM _ _ _ _) rfl (fun R0 hR0=> ?_)|refine aY hg (gM _ _ _ _) rfl (fun R0 hR0=> ?_)|refine br hg (gO _ _ _ _) rfl (fun R0 hR0=> ?_)|refine aY hg (gO _ _ _ _) rfl (fun R0 hR0=> ?_));cbv)|(split<;>rename_i hh<;>(try rw [hh])<;>(try simp only [dm hg]at hh)<;>cbv)))
 all_goals exact aV hF (by subst_vars;rfl)
theorem jP(s:ar)(w:Bool):PC0 257 [.agg (lc (ar.c s)),abl w] (.t (ai (sj s w))):=by
 cases w<;>(refine ae (aN f257) aD func257 fun g F hg hF=> ?_;cbv;repeat'(first|((first|refine Ca hg (eU s) rfl (fun R0 R1 R2 R3 hR0 hR1 hR2 hR3=> ?_)|refine CY hg (eU s) rfl (fun R0 R1 R2 R3 hR0 hR1 hR2 hR3=> ?_)|refine br hg (fA _ _ _ _) rfl (fun R0 hR0=> ?_)|refine aY hg (fA _ _ _ _) rfl (fun R0 hR0=> ?_)|refine br hg (fC _ _ _ _) rfl (fun R0 hR0=> ?_)|refine aY hg (fC _ _ _ _) rfl (fun R0 hR0=> ?_));cbv)|(split<;>rename_i hh<;>(try rw [hh])<;>(try simp only [dm hg]at hh)<;>cbv)))
 all_goals exact aV hF (by subst_vars;rfl)
theorem ea(w:Bool)(a b c d:Int):PC0 199 [abl w,.agg [.J a,.J b],.agg [.J c,.J d]] (.t (agV (if w then⟨a,b⟩else⟨c,d⟩))):=by
 cases w<;>(refine ae (aN f199) aD func199 fun g F hg hF=> ?_;cbv;repeat'(first|(split<;>rename_i hh<;>(try rw [hh])<;>(try simp only [dm hg]at hh)<;>cbv)))
 all_goals exact ml hF (by exact⟨rfl,rfl⟩)
theorem fK(w:Bool)(a b c d:Int):PC0 212 [abl w,.agg [.J a,.J b],.agg [.J c,.J d]] (.t (agV (if w then⟨a,b⟩else⟨c,d⟩))):=by
 cases w<;>(refine ae (aN f212) aD func212 fun g F hg hF=> ?_;cbv;repeat'(first|(split<;>rename_i hh<;>(try rw [hh])<;>(try simp only [dm hg]at hh)<;>cbv)))
 all_goals exact ml hF (by exact⟨rfl,rfl⟩)
theorem iA(s:ar)(w:Bool)(b:Int):PC0 172 [.agg (lc (ar.c s)),abl w,ai b] (.t (ai (zK s w b))):=by
 obtain⟨a0,a1,a2,a3,a4,a5,a6,a7,a8,a9,a10,⟨a11,a12⟩,⟨a13,a14⟩,⟨a15,a16⟩,⟨a17,a18⟩,⟨a19,a20⟩,⟨a21,a22⟩,⟨a23,a24⟩,a25,⟨⟨a26,a27⟩,⟨a28,a29⟩,⟨a30,a31⟩,⟨a32,a33⟩,⟨a34,a35⟩,⟨a36,a37⟩⟩,⟨⟨a38,a39⟩,⟨a40,a41⟩,⟨a42,a43⟩,⟨a44,a45⟩,⟨a46,a47⟩,⟨a48,a49⟩⟩,⟨a50,a51,a52,a53⟩,⟨a54,a55,a56,a57⟩,a58,a59⟩:=s
 have zc1:=gB (⟨a0,a1,a2,a3,a4,a5,a6,a7,a8,a9,a10,⟨a11,a12⟩,⟨a13,a14⟩,⟨a15,a16⟩,⟨a17,a18⟩,⟨a19,a20⟩,⟨a21,a22⟩,⟨a23,a24⟩,a25,⟨⟨a26,a27⟩,⟨a28,a29⟩,⟨a30,a31⟩,⟨a32,a33⟩,⟨a34,a35⟩,⟨a36,a37⟩⟩,⟨⟨a38,a39⟩,⟨a40,a41⟩,⟨a42,a43⟩,⟨a44,a45⟩,⟨a46,a47⟩,⟨a48,a49⟩⟩,⟨a50,a51,a52,a53⟩,⟨a54,a55,a56,a57⟩,a58,a59⟩:ar)
 cases w<;>(refine ae (aN f172) aD func172 fun g F hg hF=> ?_;cbv;repeat'(first|((first|refine rH hg (ea _ _ _ _ _) rfl (fun R0 R1 hR0 hR1=> ?_)|refine l5 hg (ea _ _ _ _ _) rfl (fun R0 R1 hR0 hR1=> ?_)|refine br hg (dL _ _ _) rfl (fun R0 hR0=> ?_)|refine aY hg (dL _ _ _) rfl (fun R0 hR0=> ?_)|refine br hg (jj _ _) rfl (fun R0 hR0=> ?_)|refine aY hg (jj _ _) rfl (fun R0 hR0=> ?_)|refine br hg (zc1 _) rfl (fun R0 hR0=> ?_)|refine aY hg (zc1 _) rfl (fun R0 hR0=> ?_));cbv)|(split<;>rename_i hh<;>(try rw [hh])<;>(try simp only [dm hg]at hh)<;>cbv)))
 all_goals exact aV hF (by simp only [zK];subst_vars;first|rfl|(split<;>first|rfl|contradiction|omega)|grind)
theorem iJ(s:ar)(w:Bool)(b:Int):PC0 180 [.agg (lc (ar.c s)),abl w,ai b] (.t (ai (zK s w b))):=by
 cases w<;>(refine ae (aN f180) aD func180 fun g F hg hF=> ?_;cbv;repeat'(first|((first|refine rH hg (fK _ _ _ _ _) rfl (fun R0 R1 hR0 hR1=> ?_)|refine l5 hg (fK _ _ _ _ _) rfl (fun R0 R1 hR0 hR1=> ?_)|refine br hg (dP _ _ _) rfl (fun R0 hR0=> ?_)|refine aY hg (dP _ _ _) rfl (fun R0 hR0=> ?_)|refine br hg (nq _ _) rfl (fun R0 hR0=> ?_)|refine aY hg (nq _ _) rfl (fun R0 hR0=> ?_)|refine br hg (jP s _) rfl (fun R0 hR0=> ?_)|refine aY hg (jP s _) rfl (fun R0 hR0=> ?_));cbv)|(split<;>rename_i hh<;>(try rw [hh])<;>(try simp only [dm hg]at hh)<;>cbv)))
 all_goals exact aV hF (by simp only [zK,CP hg];subst_vars;first|rfl|(split<;>first|rfl|contradiction|omega)|grind)
theorem jk(s:ar)(w:Bool)(b:Int):PC0 173 [.agg (lc (ar.c s)),abl w,ai b] (.t (ai (AO s w b))):=by
 cases w<;>(refine ae (aN f173) aD func173 fun g F hg hF=> ?_;cbv;repeat'(first|((first|refine rH hg (ea _ _ _ _ _) rfl (fun R0 R1 hR0 hR1=> ?_)|refine l5 hg (ea _ _ _ _ _) rfl (fun R0 R1 hR0 hR1=> ?_)|refine br hg (dL _ _ _) rfl (fun R0 hR0=> ?_)|refine aY hg (dL _ _ _) rfl (fun R0 hR0=> ?_));cbv)|(split<;>rename_i hh<;>(try rw [hh])<;>(try simp only [dm hg]at hh)<;>cbv)))
 all_goals exact aV hF (by subst_vars;rfl)
theorem jv(s:ar)(w:Bool)(b:Int):PC0 181 [.agg (lc (ar.c s)),abl w,ai b] (.t (ai (AO s w b))):=by
 cases w<;>(refine ae (aN f181) aD func181 fun g F hg hF=> ?_;cbv;repeat'(first|((first|refine rH hg (fK _ _ _ _ _) rfl (fun R0 R1 hR0 hR1=> ?_)|refine l5 hg (fK _ _ _ _ _) rfl (fun R0 R1 hR0 hR1=> ?_)|refine br hg (dP _ _ _) rfl (fun R0 hR0=> ?_)|refine aY hg (dP _ _ _) rfl (fun R0 hR0=> ?_));cbv)|(split<;>rename_i hh<;>(try rw [hh])<;>(try simp only [dm hg]at hh)<;>cbv)))
 all_goals exact aV hF (by subst_vars;rfl)
theorem fV(s:ar)(w:Bool)(b:Int):PC0 110 [.agg (lc (ar.c s)),abl w,ai b] (.t (ai (qr s w b))):=by
 cases w<;>(refine ae (aN f110) aD func110 fun g F hg hF=> ?_;cbv;repeat'(first|((first|refine rH hg (ea _ _ _ _ _) rfl (fun R0 R1 hR0 hR1=> ?_)|refine l5 hg (ea _ _ _ _ _) rfl (fun R0 R1 hR0 hR1=> ?_)|refine br hg (dL _ _ _) rfl (fun R0 hR0=> ?_)|refine aY hg (dL _ _ _) rfl (fun R0 hR0=> ?_));cbv)|(split<;>rename_i hh<;>(try rw [hh])<;>(try simp only [dm hg]at hh)<;>cbv)))
 all_goals exact aV hF (by subst_vars;rfl)
theorem gj(s:ar)(w:Bool)(b:Int):PC0 125 [.agg (lc (ar.c s)),abl w,ai b] (.t (ai (qr s w b))):=by
 cases w<;>(refine ae (aN f125) aD func125 fun g F hg hF=> ?_;cbv;repeat'(first|((first|refine rH hg (fK _ _ _ _ _) rfl (fun R0 R1 hR0 hR1=> ?_)|refine l5 hg (fK _ _ _ _ _) rfl (fun R0 R1 hR0 hR1=> ?_)|refine br hg (dP _ _ _) rfl (fun R0 hR0=> ?_)|refine aY hg (dP _ _ _) rfl (fun R0 hR0=> ?_));cbv)|(split<;>rename_i hh<;>(try rw [hh])<;>(try simp only [dm hg]at hh)<;>cbv)))
 all_goals exact aV hF (by subst_vars;rfl)
theorem eJ(s:ar)(w:Bool)(b n:Int):PC0 111 [.agg (lc (ar.c s)),abl w,ai b,ai n] (.t (ai (ox s w b n))):=by
 refine ae (aN f111) aD func111 fun g F hg hF=> ?_
 cbv
 repeat'(first|((first|refine br hg (iA s _ _) rfl (fun R0 hR0=> ?_)|refine aY hg (iA s _ _) rfl (fun R0 hR0=> ?_)|refine br hg (jk s _ _) rfl (fun R0 hR0=> ?_)|refine aY hg (jk s _ _) rfl (fun R0 hR0=> ?_)|refine br hg (ji _ _ _) rfl (fun R0 hR0=> ?_)|refine aY hg (ji _ _ _) rfl (fun R0 hR0=> ?_)|refine br hg (aO _) rfl (fun R0 hR0=> ?_)|refine aY hg (aO _) rfl (fun R0 hR0=> ?_));cbv)|(split<;>rename_i hh<;>(try rw [hh])<;>(try simp only [dm hg]at hh)<;>cbv))
 all_goals exact aV hF (by subst_vars;rfl)
theorem gl(s:ar)(w:Bool)(b n:Int):PC0 127 [.agg (lc (ar.c s)),abl w,ai b,ai n] (.t (ai (ox s w b n))):=by
 refine ae (aN f127) aD func127 fun g F hg hF=> ?_
 cbv
 repeat'(first|((first|refine br hg (iJ s _ _) rfl (fun R0 hR0=> ?_)|refine aY hg (iJ s _ _) rfl (fun R0 hR0=> ?_)|refine br hg (jv s _ _) rfl (fun R0 hR0=> ?_)|refine aY hg (jv s _ _) rfl (fun R0 hR0=> ?_)|refine br hg (ju _ _ _) rfl (fun R0 hR0=> ?_)|refine aY hg (ju _ _ _) rfl (fun R0 hR0=> ?_)|refine br hg (bf _) rfl (fun R0 hR0=> ?_)|refine aY hg (bf _) rfl (fun R0 hR0=> ?_));cbv)|(split<;>rename_i hh<;>(try rw [hh])<;>(try simp only [dm hg]at hh)<;>cbv))
 all_goals exact aV hF (by subst_vars;rfl)
theorem Ay{F:Nat→Prop}{w:World}:∀(j:Nat)(x:AT),([]:List AT)[j]? =some x→∃v,([]:List Value)[j]? =some v∧RT F w [] [] x v:=fun j x h=>by simp at h
theorem gX{F:Nat→Prop}{w:World}{x:AT}{v:Value}{xs:List AT}{vs:List Value}(h1:RT F w [] [] x v)(h2:∀(j:Nat)(x:AT),xs[j]? =some x→∃v,vs[j]? =some v∧RT F w [] [] x v):
  ∀(j:Nat)(y:AT),(x::xs)[j]? =some y→∃u,(v::vs)[j]? =some u∧RT F w [] [] y u:=fun j y h=>by
 cases j with
 |zero=>simp only [zqw,zqy]at h;subst h;exact⟨v,rfl,h1⟩
 |succ j=>exact h2 j y (by simpa using h)
theorem iE(n:Int):PC0 126 [ai n] (.t (.agg [.J 3,.J n])):=by
 refine ae (aN f126) aD func126 fun g F hg hF=> ?_
 cbv
 all_goals exact ml hF (by exact⟨rfl,rfl⟩)
end Go.Proofs.YtdnnffbbhijmkaaGreat
