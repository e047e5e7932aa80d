/- Valid values, sides, styles. -/
import Derived.Test.YtbnplcingdgaaaaGreatC9ar
set_option linter.unusedVariables false
set_option linter.unusedSimpArgs false
set_option maxHeartbeats 8000000
namespace Go.Proofs.YtbnplcingdgaaaaGreat
open Go.ChangeShapes Go.WideShapes Go.ChangeAt Go.RowKit Am Go.Proofs.Tryz
set_option maxRecDepth 100000
abbrev agV(v:jL):AT:= .agg [.J v.kind,.J v.n]
abbrev agP(v:aI):AT:= .agg [.J v.mode,.J v.n]
abbrev agE(e:dq):AT:= .agg [.J e.left,.J e.top,.J e.right,.J e.bottom]
theorem bX(a b:Int):PC0 115 [ai a,ai b] (.i (adE a b)):=by
 refine ae (aP f115) aC func115 fun g F hg hF=> ?_
 cbv
 repeat'(first|((first|refine bM hg (ar _) rfl (fun R0 ha=> ?_)|refine bh hg (ar _) rfl (fun R0 ha=> ?_));cbv)|(split<;>rename_i hh<;>(try rw [hh])<;>(try simp only [fk hg]at hh)<;>cbv))
 all_goals exact bk hF (by(try simp only [aJ hg]at *);subst_vars;rfl)
theorem nW(a b:dq):PC0 111 [agE a,agE b] (.t (agE (DW a b))):=by
 obtain⟨a0,a1,a2,a3⟩:=a
 obtain⟨b0,b1,b2,b3⟩:=b
 refine ae (aP f111) aC func111 fun g F hg hF=> ?_
 cbv
 repeat'(first|((first|refine bM hg (bX _ _) rfl (fun R0 ha=> ?_)|refine bh hg (bX _ _) rfl (fun R0 ha=> ?_));cbv)|(split<;>rename_i hh<;>(try rw [hh])<;>(try simp only [fk hg]at hh)<;>cbv))
 all_goals exact CL hF (by subst_vars;exact⟨rfl,rfl,rfl,rfl⟩)
theorem dY(l t r b:Int):PC0 73 [agE ⟨l,t,r,b⟩] (.i (adE l r)):=by
 refine ae (aP f73) aC func73 fun g F hg hF=> ?_
 cbv
 repeat'(first|((first|refine bM hg (bX _ _) rfl (fun R0 ha=> ?_)|refine bh hg (bX _ _) rfl (fun R0 ha=> ?_));cbv)|(split<;>rename_i hh<;>(try rw [hh])<;>(try simp only [fk hg]at hh)<;>cbv))
 all_goals exact bk hF (by subst_vars;rfl)
theorem d5(l t r b:Int):PC0 74 [agE ⟨l,t,r,b⟩] (.i (adE t b)):=by
 refine ae (aP f74) aC func74 fun g F hg hF=> ?_
 cbv
 repeat'(first|((first|refine bM hg (bX _ _) rfl (fun R0 ha=> ?_)|refine bh hg (bX _ _) rfl (fun R0 ha=> ?_));cbv)|(split<;>rename_i hh<;>(try rw [hh])<;>(try simp only [fk hg]at hh)<;>cbv))
 all_goals exact bk hF (by subst_vars;rfl)
theorem dB(s:ah):PC0 63 [.agg (lc (ah.c s))] (.t (agE (lx s))):=by
 obtain⟨a0,a1,a2,a3,a4,a5,a6,a7,a8,a9,hj,⟨hk,hl⟩,⟨hm,hn⟩,⟨ho,hp⟩,⟨hq,hr⟩,⟨hs,ht⟩,⟨hu,hv⟩,⟨hw,hx⟩,hy,⟨⟨hz,hA⟩,⟨hB,hC⟩,⟨hD,hE⟩,⟨hG,hH⟩,⟨hI,hJ⟩,⟨hK,hL⟩⟩,⟨⟨hM,hN⟩,⟨hO,hP⟩,⟨hQ,hR⟩,⟨hS,hT⟩,⟨hU,hV⟩,⟨hW,hX⟩⟩,⟨ha,hb,hc,hd⟩,⟨he,hf,hh,hi⟩,hY,hZ⟩:=s
 refine ae (aP f63) aC func63 fun g F hg hF=> ?_
 cbv
 refine CX hg (nW ⟨ha,hb,hc,hd⟩ ⟨he,hf,hh,hi⟩) rfl (fun R0 R1 R2 R3 h0 h1 h2 h3=> ?_)
 cbv
 all_goals exact CL hF (by subst_vars;exact⟨rfl,rfl,rfl,rfl⟩)
theorem hP(s:ah)(w:Bool):PC0 122 [.agg (lc (ah.c s)),abl w] (.i (yo s w)):=by
 cases w<;>(refine ae (aP f122) aC func122 fun g F hg hF=> ?_;cbv;repeat'(first|((first|refine CX hg (dB s) rfl (fun R0 R1 R2 R3 ha hb hc hd=> ?_)|refine CW hg (dB s) rfl (fun R0 R1 R2 R3 ha hb hc hd=> ?_)|refine bM hg (dY _ _ _ _) rfl (fun R0 ha=> ?_)|refine bh hg (dY _ _ _ _) rfl (fun R0 ha=> ?_)|refine bM hg (d5 _ _ _ _) rfl (fun R0 ha=> ?_)|refine bh hg (d5 _ _ _ _) rfl (fun R0 ha=> ?_));cbv)|(split<;>rename_i hh<;>(try rw [hh])<;>(try simp only [fk hg]at hh)<;>cbv)))
 all_goals exact bk hF (by subst_vars;rfl)
theorem ef(w:Bool)(a b c d:Int):PC0 108 [abl w,.agg [.J a,.J b],.agg [.J c,.J d]] (.t (agV (if w then⟨a,b⟩else⟨c,d⟩))):=by
 cases w<;>(refine ae (aP f108) aC func108 fun g F hg hF=> ?_;cbv;repeat'(first|(split<;>rename_i hh<;>(try rw [hh])<;>(try simp only [fk hg]at hh)<;>cbv)))
 all_goals exact uB hF (by exact⟨rfl,rfl⟩)
theorem fW(s:ah)(w:Bool)(b:Int):PC0 86 [.agg (lc (ah.c s)),abl w,ai b] (.i (Aj s w b)):=by
 cases w<;>(refine ae (aP f86) aC func86 fun g F hg hF=> ?_;cbv;repeat'(first|((first|refine wW hg (ef _ _ _ _ _) rfl (fun R0 R1 ha hb=> ?_)|refine ri hg (ef _ _ _ _ _) rfl (fun R0 R1 ha hb=> ?_)|refine bM hg (cY _ _ _) rfl (fun R0 ha=> ?_)|refine bh hg (cY _ _ _) rfl (fun R0 ha=> ?_)|refine bM hg (km _ _) rfl (fun R0 ha=> ?_)|refine bh hg (km _ _) rfl (fun R0 ha=> ?_)|refine bM hg (hP s _) rfl (fun R0 ha=> ?_)|refine bh hg (hP s _) rfl (fun R0 ha=> ?_));cbv)|(split<;>rename_i hh<;>(try rw [hh])<;>(try simp only [fk hg]at hh)<;>cbv)))
 all_goals exact bk hF (by simp only [Aj,zk hg];subst_vars;first|rfl|(split<;>first|rfl|contradiction|omega)|grind)
theorem gH(s:ah)(w:Bool)(b:Int):PC0 87 [.agg (lc (ah.c s)),abl w,ai b] (.i (Bu s w b)):=by
 cases w<;>(refine ae (aP f87) aC func87 fun g F hg hF=> ?_;cbv;repeat'(first|((first|refine wW hg (ef _ _ _ _ _) rfl (fun R0 R1 ha hb=> ?_)|refine ri hg (ef _ _ _ _ _) rfl (fun R0 R1 ha hb=> ?_)|refine bM hg (cY _ _ _) rfl (fun R0 ha=> ?_)|refine bh hg (cY _ _ _) rfl (fun R0 ha=> ?_));cbv)|(split<;>rename_i hh<;>(try rw [hh])<;>(try simp only [fk hg]at hh)<;>cbv)))
 all_goals exact bk hF (by subst_vars;rfl)
theorem eO(s:ah)(w:Bool)(b:Int):PC0 60 [.agg (lc (ah.c s)),abl w,ai b] (.i (q8 s w b)):=by
 cases w<;>(refine ae (aP f60) aC func60 fun g F hg hF=> ?_;cbv;repeat'(first|((first|refine wW hg (ef _ _ _ _ _) rfl (fun R0 R1 ha hb=> ?_)|refine ri hg (ef _ _ _ _ _) rfl (fun R0 R1 ha hb=> ?_)|refine bM hg (cY _ _ _) rfl (fun R0 ha=> ?_)|refine bh hg (cY _ _ _) rfl (fun R0 ha=> ?_));cbv)|(split<;>rename_i hh<;>(try rw [hh])<;>(try simp only [fk hg]at hh)<;>cbv)))
 all_goals exact bk hF (by subst_vars;rfl)
theorem eU(s:ah)(w:Bool)(b n:Int):PC0 62 [.agg (lc (ah.c s)),abl w,ai b,ai n] (.i (nD s w b n)):=by
 refine ae (aP f62) aC func62 fun g F hg hF=> ?_
 cbv
 repeat'(first|((first|refine bM hg (fW s _ _) rfl (fun R0 ha=> ?_)|refine bh hg (fW s _ _) rfl (fun R0 ha=> ?_)|refine bM hg (gH s _ _) rfl (fun R0 ha=> ?_)|refine bh hg (gH s _ _) rfl (fun R0 ha=> ?_)|refine bM hg (gG _ _ _) rfl (fun R0 ha=> ?_)|refine bh hg (gG _ _ _) rfl (fun R0 ha=> ?_)|refine bM hg (ar _) rfl (fun R0 ha=> ?_)|refine bh hg (ar _) rfl (fun R0 ha=> ?_));cbv)|(split<;>rename_i hh<;>(try rw [hh])<;>(try simp only [fk hg]at hh)<;>cbv))
 all_goals exact bk hF (by subst_vars;rfl)
variable {w:World}{F:Nat->Prop}
theorem xe:∀(j:Nat)(x:AT),([]:List AT)[j]? =some x->∃v,([]:List Value)[j]? =some v/\RT F w [] [] x v:=fun j x h=>by simp at h
theorem uJ{x:AT}{v:Value}{xs:List AT}{vs:List Value}(h1:RT F w [] [] x v)(h2:∀(j:Nat)(x:AT),xs[j]? =some x->∃v,vs[j]? =some v/\RT F w [] [] x v):
  ∀(j:Nat)(y:AT),(x::xs)[j]? =some y->∃u,(v::vs)[j]? =some u/\RT F w [] [] y u:=fun j y h=>by
 cases j with
 |zero=>simp only [zqw,zqy]at h;subst h;exact⟨v,rfl,h1⟩
 |succ j=>exact h2 j y (by simpa using h)
theorem fU(n:Int):PC0 95 [ai n] (.t (.agg [.J 3,.J n])):=by
 refine ae (aP f95) aC func95 fun g F hg hF=> ?_
 cbv
 all_goals exact uB hF (by exact⟨rfl,rfl⟩)
variable {α:Type}{xs:List α}
theorem BG.len{k:Nat}{c:α->Array Value}{v:Value}(h:BG k c w v xs):xs.length<=9223372036854775807:=by
 obtain⟨p,cap,_,h1,h2,_⟩:=h
 exact Nat.le_trans h1 (Nat.le_trans h2 (by decide))
theorem vb(c:α->Array Value)(xs:List α):rV (vw c xs)=true:=by
 simp only [rV,vw,List.all_map,zqf]
 intro x _
 simp [lc]
variable {V:LLA}
theorem imV{c:α->Array Value}(h:V=vw c xs):rV V=true:=by rw [h];exact vb _ _
def DC(gap z:Int):Int:=if 0<z then gap*(z-1)else 0
def Bx(x:ag):Int:=x.before+x.behind
def jd(xs:List ag)(ys:List Int)(gap:Int):Int:=(xs.map Bx).sum+DC gap xs.length+(ys.map id).sum
theorem dA(xs:List ag)(ys:List Int)(gap:Int)(hx:xs.length<=1048576)(hy:ys.length<=1048576):PC0 126 [.c (.view (vw ag.c xs)),.c (.view (vw aj ys)),ai gap] (.i (wrap64 (jd xs ys gap))):=by
 obtain⟨V,hV⟩:=nmE (vw ag.c xs)
 obtain⟨W,hW⟩:=nmE (vw aj ys)
 have hk:=lmV hV
 have hl:=lmV hW
 rw [<-hV,<-hW]
 refine ae (aP f126) aC func126 fun g F hg hF=> ?_
 cbv
 refine cV hg aC (by kernel_rfl) (fun s:Int×Int=>[(0,.v V),(2,.i gap),(7,.i s.2),(12,.v W),(13,.i (g .ln W)),(14,.i s.1)]) (fun _=>[]) (fun s=>0<=s.1/\s.1<=aD W/\s.2=wrap64 (ug id ys s.1.toNat)) (fun s=>W.length-s.1.toNat)
  (0,0) [] ⟨Int.le_refl 0,by have:=az W;simp only;omega,by rw [show((0,0):Int×Int).1.toNat=0 from rfl,jU];exact(aw 0 (by omega)).symm⟩ (wk0 zr6) (fun s B hs hB=> ?_)
 obtain⟨z,a⟩:=s
 obtain⟨h0,h1,h2⟩:=hs
 simp only at h0 h1 h2
 cbv
 cases hc:g .q .lss z (g .ln W)
 ·rw [bD hg,bH hg,zqo]at hc
  cbv
  have ha:a=wrap64 ((ys.map id).sum):=by rw [h2,lZ id (by have:=az W;omega)]
  refine cV hg aC (by kernel_rfl) (fun s:Int×Int=>[(0,.v V),(2,.i gap),(7,.i s.2),(22,.v V),(23,.i (g .ln V)),(24,.i s.1)]) (fun _=>[]) (fun s=>0<=s.1/\s.1<=aD V/\s.2=wrap64 ((ys.map id).sum+ug Bx xs s.1.toNat)) (fun s=>V.length-s.1.toNat)
   (0,a) [] ⟨Int.le_refl 0,by have:=az V;simp only;omega,by rw [show((0,a):Int×Int).1.toNat=0 from rfl,jU,Int.add_zero];exact ha⟩ (wk0 zr6) (fun s B2 hs hi=> ?_)
  obtain⟨y,b⟩:=s
  obtain⟨k0,k1,k2⟩:=hs
  simp only at k0 k1 k2
  cbv
  cases hd:g .q .lss y (g .ln V)
  ·rw [bD hg,bH hg,zqo]at hd
   cbv
   have kb:b=wrap64 ((ys.map id).sum+(xs.map Bx).sum):=by rw [k2,lZ Bx (by have:=az V;omega)]
   have hb:=az V
   cases he:g .q .gtr (g .ln V) 0
   ·rw [dr hg,bH hg,zqo]at he
    cbv
    have hb:=az V
    exact bk hF (by rw [kb];unfold jd DC;rw [if_neg (by omega)];exact congrArg wrap64 (by omega))
   ·rw [dr hg,bH hg,zqp]at he
    cbv
    have hb:=az V
    exact bk hF (by
     rw [aJ hg,jD hg,fd hg,bH hg,aw (aD V-1) (by omega),kb,u6,yN]
     unfold jd DC
     rw [if_pos (by omega),show aD V=(xs.length:Int) by omega]
     exact congrArg wrap64 (by omega))
  ·rw [bD hg,bH hg,zqp]at hd
   cbv
   have hb:=az V
   obtain⟨x,hf⟩:=uI (xs:=xs) k0 (by omega)
   have hh:V[y.toNat]? =some (lc (ag.c x)):=by rw [hV];exact bu hf
   have hj:=jV Bx hf
   obtain⟨a0,a1,a2,a3,a4,a5,a6,a7,a8⟩:=x
   refine goX hg _ k0 hh rfl ?_
   cbv
   have hb:=az V
   have e1:g .w .add .i64 y 1=y+1:=by rw [aJ hg,aw _ (by omega)]
   rw [e1,aJ hg,aJ hg]
   refine ig hi (y+1,_) [] (wkS [] (by decide) trivial zr6) ⟨by simp only;omega,by simp only;omega,?_⟩ (by show V.length-(y+1).toNat<V.length-y.toNat;omega)
   show wrap64 (b+wrap64 (a5+a6))=_
   rw [show(y+1).toNat=y.toNat+1 by omega,hj,k2,u6,yN]
   exact congrArg wrap64 (by simp only [Bx];omega)
 ·rw [bD hg,bH hg,zqp]at hc
  cbv
  have hb:=az W
  obtain⟨x,hf⟩:=uI (xs:=ys) h0 (by omega)
  have hh:W[z.toNat]? =some (lc (aj x)):=by rw [hW];exact bu hf
  refine goX hg _ h0 hh rfl ?_
  cbv
  have hb:=az W
  have e1:g .w .add .i64 z 1=z+1:=by rw [aJ hg,aw _ (by omega)]
  rw [e1,aJ hg]
  refine ig hB (z+1,_) [] (wk0 zr6) ⟨by simp only;omega,by simp only;omega,?_⟩ (by show W.length-(z+1).toNat<W.length-z.toNat;omega)
  show wrap64 (a+x)=_
  rw [show(z+1).toNat=z.toNat+1 by omega,jV id hf,h2,u6];rfl
def vwA(c:α->List AC)(xs:List α):LLA:=xs.map c
theorem bm(c:α->List AC)(xs:List α):(vwA c xs).length=xs.length:=by simp [vwA]
theorem fE{c:α->List AC}{i:Nat}{x:α}(h:xs[i]? =some x):(vwA c xs)[i]? =some (c x):=by simp [vwA,h]
theorem Dr{c:α->List AC}{k:Nat}(hk:∀x,(c x).length=k):∀y∈vwA c xs,y.length=k:=by
 intro y hy
 simp only [vwA,List.mem_map]at hy
 obtain⟨x,_,rfl⟩:=hy
 exact hk x
theorem zM{c:α->List AC}(hd:∀x,(c x).all dat=true):∀y∈vwA c xs,y.all dat=true:=by
 intro y hy
 simp only [vwA,List.mem_map]at hy
 obtain⟨x,_,rfl⟩:=hy
 exact hd x
theorem vd{c:α->List AC}(hp:∀x,(c x).all dx=true)(xs:List α):aN (vwA c xs)=true:=by
 simp only [aN,zqf]
 intro y hy
 simp only [vwA,List.mem_map]at hy
 obtain⟨x,_,rfl⟩:=hy
 exact List.all_eq_true.1 (hp x)
theorem fT{n:Nat}{a z:Int}(h:a=(n:Int))(hz:z<a):z<(n:Int):=h▸hz
variable {z:Int}
theorem Ai{es:LLA}{j:Nat}(h0:0<=z)(hc:z<aD es)(hj:j=z.toNat):j<es.length:=by subst hj;rw [az]at hc;omega
theorem qe{p:α->Prop}{M z:Int}(hM:M=(xs.length:Int))(hz:M<=z)(h:∀(i:Nat)(y:α),i<z.toNat->xs[i]? =some y->p y):∀y∈xs,p y:=fun y hy=>by
 obtain⟨i,hi,he⟩:=List.getElem_of_mem hy
 exact h i y (by omega) (by rw [zqc hi,he])
variable {P:Program}{K:Nat->Prop}{g:Gd}
theorem D6{n0 N:Nat}(hg:g=G0 P n0 N){xs:LLA}{j k:Nat}(hz:0<=z)(hj:j=z.toNat)(hy:j<xs.length)(hK:K j):g .Y k xs z K:=by subst hg hj;exact⟨hz,hy,hK⟩
structure zG where
 rules:List aQ
structure af where
 up:Int
 kids:List Int
 style:ah
 measured:Bool
 table:zG
def af.ac:af->List AC
 |⟨a0,a1,⟨a2,a3,a4,a5,a6,a7,a8,a9,a10,a11,a12,⟨a13,a14⟩,⟨a15,a16⟩,⟨a17,a18⟩,⟨a19,a20⟩,⟨a21,a22⟩,⟨a23,a24⟩,⟨a25,a26⟩,a27,⟨⟨a28,a29⟩,⟨a30,a31⟩,⟨a32,a33⟩,⟨a34,a35⟩,⟨a36,a37⟩,⟨a38,a39⟩⟩,⟨⟨a40,a41⟩,⟨a42,a43⟩,⟨a44,a45⟩,⟨a46,a47⟩,⟨a48,a49⟩,⟨a50,a51⟩⟩,⟨a52,a53,a54,a55⟩,⟨a56,a57,a58,a59⟩,a60,a61⟩,a62,⟨a63⟩⟩=>[.imm (.int .i64 a0),.view (vw aj a1),.imm (.int .i64 a2),.imm (.int .i64 a3),.imm (.int .i64 a4),.imm (.int .i64 a5),.imm (.int .i64 a6),.imm (.int .i64 a7),.imm (.bool a8),.imm (.bool a9),.imm (.int .i64 a10),.imm (.int .i64 a11),.imm (.int .i64 a12),.imm (.int .i64 a13),.imm (.int .i64 a14),.imm (.int .i64 a15),.imm (.int .i64 a16),.imm (.int .i64 a17),.imm (.int .i64 a18),.imm (.int .i64 a19),.imm (.int .i64 a20),.imm (.int .i64 a21),.imm (.int .i64 a22),.imm (.int .i64 a23),.imm (.int .i64 a24),.imm (.int .i64 a25),.imm (.int .i64 a26),.imm (.int .i64 a27),.imm (.int .i64 a28),.imm (.int .i64 a29),.imm (.int .i64 a30),.imm (.int .i64 a31),.imm (.int .i64 a32),.imm (.int .i64 a33),.imm (.int .i64 a34),.imm (.int .i64 a35),.imm (.int .i64 a36),.imm (.int .i64 a37),.imm (.int .i64 a38),.imm (.int .i64 a39),.imm (.int .i64 a40),.imm (.int .i64 a41),.imm (.int .i64 a42),.imm (.int .i64 a43),.imm (.int .i64 a44),.imm (.int .i64 a45),.imm (.int .i64 a46),.imm (.int .i64 a47),.imm (.int .i64 a48),.imm (.int .i64 a49),.imm (.int .i64 a50),.imm (.int .i64 a51),.imm (.int .i64 a52),.imm (.int .i64 a53),.imm (.int .i64 a54),.imm (.int .i64 a55),.imm (.int .i64 a56),.imm (.int .i64 a57),.imm (.int .i64 a58),.imm (.int .i64 a59),.imm (.int .i64 a60),.imm (.int .i64 a61),.imm (.bool a62),.view (vw aQ.c a63)]
def af.small:af->Prop
 |⟨a0,a1,⟨a2,a3,a4,a5,a6,a7,a8,a9,a10,a11,a12,⟨a13,a14⟩,⟨a15,a16⟩,⟨a17,a18⟩,⟨a19,a20⟩,⟨a21,a22⟩,⟨a23,a24⟩,⟨a25,a26⟩,a27,⟨⟨a28,a29⟩,⟨a30,a31⟩,⟨a32,a33⟩,⟨a34,a35⟩,⟨a36,a37⟩,⟨a38,a39⟩⟩,⟨⟨a40,a41⟩,⟨a42,a43⟩,⟨a44,a45⟩,⟨a46,a47⟩,⟨a48,a49⟩,⟨a50,a51⟩⟩,⟨a52,a53,a54,a55⟩,⟨a56,a57,a58,a59⟩,a60,a61⟩,a62,⟨a63⟩⟩=>a1.length<=1048576/\a63.length<=1048576/\True
structure lQ where
 wide:Int
 high:Int
 base:Int
 frames:List aG
def lQ.ac:lQ->List AC
 |⟨a0,a1,a2,a3⟩=>[.imm (.int .i64 a0),.imm (.int .i64 a1),.imm (.int .i64 a2),.view (vw aG.c a3)]
def jO(lo:Nat)(bs:List Nat):Prop:=bs.Nodup/\∀b∈bs,lo<=b
variable {lo lo':Nat}
theorem jO.mono{bs:List Nat}(h:lo<=lo')(hn:jO lo' bs):jO lo bs:=⟨hn.1,fun b hb=>Nat.le_trans h (hn.2 b hb)⟩
theorem jO.nil(lo:Nat):jO lo []:=⟨List.nodup_nil,fun b hb=>by simp at hb⟩
theorem jO.app{ps bs:List Nat}(h:lo<=lo')(ha:jO lo ps)(hb:jO lo' bs)(hlt:∀b∈ps,b<lo'):jO lo (ps++bs):=
 ⟨List.nodup_append.2 ⟨ha.1,hb.1,fun a h1 b h2 he=>by have:=hlt a h1;have:=hb.2 b h2;omega⟩,fun b hc=>(List.mem_append.1 hc).elim (ha.2 b) fun h2=>Nat.le_trans h (hb.2 b h2)⟩
theorem wy(h:rV V=true):∀y∈V,∀c∈y,∃u,c= .imm u:=fun y hy c hc=>by
 unfold rV at h
 have:=List.all_eq_true.1 (List.all_eq_true.1 h y hy) c hc
 cases c<;>first|exact⟨_,rfl⟩|cases this
theorem Cu(h:rV V=true):V.map (·.map vwC)=V:=by
 refine(List.map_congr_left (g:=id) fun x hx=> ?_).trans (List.map_id V)
 refine(List.map_congr_left (g:=id) fun c hc=> ?_).trans (List.map_id x)
 obtain⟨u,rfl⟩:=wy h x hx c hc
 rfl
theorem Cv(h:rV V=true):fpE V=[]:=by
 unfold fpE
 rw [List.flatMap_eq_nil_iff]
 intro y hy
 unfold fpL
 rw [List.flatMap_eq_nil_iff]
 intro c hc
 obtain⟨u,rfl⟩:=wy h y hy c hc
 rfl
theorem sk{e:List AC}(h:e.all jI=true):e.all dx=true:=List.all_eq_true.2 fun c hc=>by
 have:=List.all_eq_true.1 h c hc
 cases c<;>first|rfl|cases this
theorem dI{es:LLA}(h:∀e∈es,e.all jI=true):aN es=true:=List.all_eq_true.2 fun e he=>sk (h e he)
variable {h:AH}
theorem ue{bl:Nat->Nat}{c:AC}(hb:jI c=true):oL bl h c c:=by
 cases c<;>first|exact .imm _|exact .fv _ _|cases hb
variable {r:Nat}{ab:AB}
theorem qB{bl:Nat->Nat}(hr:h[r]? =some (.live ab))(hb:∀e∈ab.es,e.all jI=true):oL bl h (.own r) (.fv (hd1 (bl r) ab.es++fpE ab.es) (ab.es.map (·.map vwC))):=
 .row r ab ab.es hr rfl (fun i x y hx hy=>by rw [hx]at hy;cases hy;rfl) fun i x y hx hy j c d hc hd=>by
  rw [hx]at hy
  cases hy
  rw [hc]at hd
  cases hd
  exact ue (List.all_eq_true.1 (hb x (zqd hx)) c (zqd hc))
theorem wZ{lo:Nat}{bl:Nat->Nat}{xs:List AT}(hb:yI lo bl h xs)(hr:h[r]? =some (.live ab)):jO lo (hd1 (bl r) ab.es):=by
 cases he:ab.es with
 |nil=>exact jO.nil lo
 |cons e es=>exact⟨by simp [hd1],fun b ha=>by simp only [hd1,List.mem_singleton]at ha;subst ha;exact(hb r ab hr (by rw [he];simp)).1⟩
theorem d8{lo:Nat}{bl:Nat->Nat}{xs:List AT}(hb:yI lo bl h xs)(hr:h[r]? =some (.live ab))(hn:jO lo (fpE ab.es)):jO lo (hd1 (bl r) ab.es++fpE ab.es):=by
 refine⟨List.nodup_append.2 ⟨(wZ hb hr).1,hn.1,fun a h1 b h2 he=> ?_⟩,fun b ha=>(List.mem_append.1 ha).elim ((wZ hb hr).2 b) (hn.2 b)⟩
 subst he
 cases hes:ab.es with
 |nil=>rw [hes]at h1;simp [hd1]at h1
 |cons e es=>
  rw [hes]at h1
  simp only [hd1,List.mem_singleton]at h1
  subst h1
  obtain⟨x,hx,ha⟩:=List.mem_flatMap.1 h2
  obtain⟨c,hc,hd⟩:=List.mem_flatMap.1 ha
  exact(hb r ab hr (by rw [hes];simp)).2.2.1 r ab hr x hx c hc hd
theorem DR{n0 N:Nat}{β:BP}(hg:g=G0 P n0 N){xs:LLA}{j k:Nat}(hz:0<=z)(hj:j=z.toNat)(hy:j<xs.length)(hK:K j):g .Y k xs z K:=by subst hg hj;exact⟨hz,hy,hK⟩
structure dh(G es:LLA)(z:Int):Prop where
 z0:0<=z
 z1:z<=aD G
 eq:es=G.take z.toNat
def m3(k:Int):Bool:=k.tmod 3==0
theorem v8{E:LLA}{j:Nat}{y:List AC}(h:aN E=true)(hy:y.all dx=true):aN (E.set j y)=true:=by
 rw [aN,zqf]at h⊢
 intro x hx
 rcases List.mem_or_eq_of_mem_set hx with hx|rfl
 ·exact h x hx
 ·exact hy
theorem AF{n0 N:Nat}{β:BP}(hg:g=G0 P n0 N){t k k' by_:Nat}{q:Prop}(hk:∀y∈V,y.length=k)(hb:by_<=65536)(hl:V.length<=1048576)(hq:q):
  g .N ((∀x,x∈V->x.length=k)/\((AB.mk t k' []).es.length+V.length)*by_<=140737488355328/\(AB.mk t k' []).es.length+V.length<=4611686018427387904) q:=
 goN hg ⟨hk,Nat.le_trans (Nat.mul_le_mul (show(0:Nat)+V.length<=1048576 by omega) hb) (by decide),by show 0+V.length<=_;omega⟩ hq
section
variable {P:Program}{n0 N:Nat}{g:Gd}
theorem ni{F:List AT->EH->Prop}{w h b:Int}{r:Nat}{eh:EH}{ab:AB}(hF:F=lr 0 (fun res h'=>∃rows,h'=rows.map .live/\(res= .t (.agg [.J w,.J h,.J b,.own 0])/\rows=[ab])))(hr:nth eh r=some (.rw ab))(hp:aN ab.es=true):
  F [.agg [.J w,.J h,.J b,.own r]] eh:=by
 subst hF
 refine .inl ⟨.t (.agg [.J w,.J h,.J b,.own 0]),[.live ab],[some r],⟨Nat.zero_le _,fun i hi=>absurd hi (Nat.not_lt_zero _),by simp,?_,?_⟩,[ab],rfl,rfl,rfl⟩
 ·simp only [rnH,zqw,dt hr]
  exact⟨fun h=>absurd h (Nat.not_lt_zero _),⟨by first|trivial|rfl,by first|trivial|rfl,.inl ⟨by first|trivial|rfl,hp⟩⟩,trivial⟩
 ·exact⟨.inr zr4,trivial⟩
theorem mc{β:BP}(hg:g=G0 P n0 N){h:EH}{f:FuncId}{args:List AT}{K:AV->EH->Prop}{a b c:Int}{ab:AB}(hc:du P f args fun res hb=>res= .t (.agg [.J a,.J b,.J c,.own 0])/\hb=[ab])(hd:gl args=true)(hp:aN ab.es=true)
  (hK:K (.t (.agg [.J a,.J b,.J c,.own (jA h)])) (h++[.rw ab])):g .C f h args K:=
 p9 hg (ee hc hd fun res hb ha=>by
  obtain⟨rfl,rfl⟩:=ha
  rw [bL]at hK
  refine⟨[.rw ab],by simp only [zqA,List.map_nil,fF hp];rfl,?_⟩
  rw [aV];exact hK)
end
def rng(n l m:Int):Bool:=decide (l<=n)&&decide (n<=m)
def vOk(v:jL):Bool:=if v.kind=0\/v.kind=3 then decide (v.n=0)else if v.kind=1 then rng v.n (-1048576) 1048576 else if v.kind=2 then rng v.n (-1000) 1000 else false
def zOk(v:jL):Bool:=vOk v&&decide (0<=v.n)
def yY(s:bK):Bool:=vOk s.left&&(vOk s.top&&(vOk s.right&&(vOk s.bottom&&(vOk s.start&&vOk s.fin))))
def zr(e:dq):Bool:=rng e.left 0 1048576&&(rng e.top 0 1048576&&(rng e.right 0 1048576&&rng e.bottom 0 1048576))
def stV(s:ah):List jL:=[s.basis,s.width,s.height,s.minWidth,s.minHeight,s.maxWidth,s.maxHeight]
def stN(s:ah):Bool:=rng s.dir 1 4&&(rng s.wrap 1 3&&(rng s.justify 1 6&&(rng s.items 1 5&&(rng s.self 0 5&&(rng s.content 1 6&&(rng s.order (-1000) 1000&&(rng s.grow 0 1000&&(rng s.shrink 0 1000&&(rng s.ratio 0 6400&&(rng s.rowGap 0 1048576&&rng s.colGap 0 1048576))))))))))
def gP(s:ah):Bool:=stN s&&((stV s).all zOk&&(yY s.margin&&(yY s.inset&&(zr s.pad&&zr s.border))))
theorem bj(n l m:Int):PC0 24 [ai n,ai l,ai m] (.t (abl (rng n l m))):=qp n l m
theorem bq(n l m:Int):PC0 43 [ai n,ai l,ai m] (.t (abl (rng n l m))):=bF n l m
theorem ep(k n:Int):PC0 41 [.agg [.J k,.J n]] (.t (abl (vOk ⟨k,n⟩))):=by
 refine ae (aP f41) aC func41 fun g F hg hF=> ?_
 cbv
 repeat'(first|(refine bI hg (bj _ _ _) rfl (fun R0 ha=> ?_);cases R0<;>cbv)|(refine bf hg (bj _ _ _) rfl (fun R0 ha=> ?_);cases R0<;>cbv)|(split<;>rename_i hh<;>(try rw [hh])<;>(try simp only [fk hg]at hh)<;>cbv))
 all_goals exact aY hF (by(try simp only [bB hg]);simp only [vOk];grind)
theorem eD(k n:Int):PC0 117 [.agg [.J k,.J n]] (.t (abl (vOk ⟨k,n⟩))):=by
 refine ae (aP f117) aC func117 fun g F hg hF=> ?_
 cbv
 repeat'(first|(refine bI hg (bq _ _ _) rfl (fun R0 ha=> ?_);cases R0<;>cbv)|(refine bf hg (bq _ _ _) rfl (fun R0 ha=> ?_);cases R0<;>cbv)|(split<;>rename_i hh<;>(try rw [hh])<;>(try simp only [fk hg]at hh)<;>cbv))
 all_goals exact aY hF (by(try simp only [bB hg]);simp only [vOk];grind)
theorem jn(k n:Int):PC0 31 [.agg [.J k,.J n]] (.t (abl (zOk ⟨k,n⟩))):=by
 refine ae (aP f31) aC func31 fun g F hg hF=> ?_
 cbv
 repeat'(first|(refine bI hg (ep _ _) rfl (fun R0 ha=> ?_);cases R0<;>cbv)|(refine bf hg (ep _ _) rfl (fun R0 ha=> ?_);cases R0<;>cbv)|(split<;>rename_i hh<;>(try rw [hh])<;>(try simp only [fk hg]at hh)<;>cbv))
 all_goals exact aY hF (by(try simp only [iP hg]);simp only [zOk];grind)
theorem pz(k n:Int):PC0 77 [.agg [.J k,.J n]] (.t (abl (zOk ⟨k,n⟩))):=by
 refine ae (aP f77) aC func77 fun g F hg hF=> ?_
 cbv
 repeat'(first|(refine bI hg (eD _ _) rfl (fun R0 ha=> ?_);cases R0<;>cbv)|(refine bf hg (eD _ _) rfl (fun R0 ha=> ?_);cases R0<;>cbv)|(split<;>rename_i hh<;>(try rw [hh])<;>(try simp only [fk hg]at hh)<;>cbv))
 all_goals exact aY hF (by(try simp only [iP hg]);simp only [zOk];grind)
theorem ew(s:bK):PC0 32 [.agg (lc (bK.c s))] (.t (abl (yY s))):=by
 obtain⟨⟨a0,a1⟩,⟨a2,a3⟩,⟨a4,a5⟩,⟨a6,a7⟩,⟨a8,a9⟩,⟨hb,hc⟩⟩:=s
 refine ae (aP f32) aC func32 fun g F hg hF=> ?_
 cbv
 repeat'(first|(refine bI hg (ep _ _) rfl (fun R0 ha=> ?_);cases R0<;>cbv)|(refine bf hg (ep _ _) rfl (fun R0 ha=> ?_);cases R0<;>cbv)|(split<;>rename_i hh<;>(try rw [hh])<;>(try simp only [fk hg]at hh)<;>cbv))
 all_goals exact aY hF (by simp only [yY];simp_all)
theorem eE(s:bK):PC0 78 [.agg (lc (bK.c s))] (.t (abl (yY s))):=by
 obtain⟨⟨a0,a1⟩,⟨a2,a3⟩,⟨a4,a5⟩,⟨a6,a7⟩,⟨a8,a9⟩,⟨hb,hc⟩⟩:=s
 refine ae (aP f78) aC func78 fun g F hg hF=> ?_
 cbv
 repeat'(first|(refine bI hg (eD _ _) rfl (fun R0 ha=> ?_);cases R0<;>cbv)|(refine bf hg (eD _ _) rfl (fun R0 ha=> ?_);cases R0<;>cbv)|(split<;>rename_i hh<;>(try rw [hh])<;>(try simp only [fk hg]at hh)<;>cbv))
 all_goals exact aY hF (by simp only [yY];simp_all)
theorem eA(s:dq):PC0 33 [.agg (lc (dq.c s))] (.t (abl (zr s))):=by
 obtain⟨a0,a1,a2,a3⟩:=s
 refine ae (aP f33) aC func33 fun g F hg hF=> ?_
 cbv
 repeat'(first|(refine bI hg (bj _ _ _) rfl (fun R0 ha=> ?_);cases R0<;>cbv)|(refine bf hg (bj _ _ _) rfl (fun R0 ha=> ?_);cases R0<;>cbv)|(split<;>rename_i hh<;>(try rw [hh])<;>(try simp only [fk hg]at hh)<;>cbv))
 all_goals exact aY hF (by simp only [zr];simp_all)
theorem eP(s:dq):PC0 79 [.agg (lc (dq.c s))] (.t (abl (zr s))):=by
 obtain⟨a0,a1,a2,a3⟩:=s
 refine ae (aP f79) aC func79 fun g F hg hF=> ?_
 cbv
 repeat'(first|(refine bI hg (bq _ _ _) rfl (fun R0 ha=> ?_);cases R0<;>cbv)|(refine bf hg (bq _ _ _) rfl (fun R0 ha=> ?_);cases R0<;>cbv)|(split<;>rename_i hh<;>(try rw [hh])<;>(try simp only [fk hg]at hh)<;>cbv))
 all_goals exact aY hF (by simp only [zr];simp_all)
theorem jo(s:ah):PC0 20 [.agg (lc (ah.c s))] (.t (abl (gP s))):=by
 obtain⟨a0,a1,a2,a3,a4,a5,a6,a7,a8,a9,hK,⟨hL,hM⟩,⟨hN,hO⟩,⟨hP,hQ⟩,⟨hR,hS⟩,⟨hT,hU⟩,⟨hV,hW⟩,⟨hX,hY⟩,hZ,⟨⟨hb,hc⟩,⟨hd,he⟩,⟨hf,hi⟩,⟨hj,hk⟩,⟨hl,hm⟩,⟨hn,ho⟩⟩,⟨⟨hp,hq⟩,⟨hr,hs⟩,⟨ht,hu⟩,⟨hv,hw⟩,⟨hx,hy⟩,⟨hz,hA⟩⟩,⟨hB,hC,hD,hE⟩,⟨hG,hH,hI,hJ⟩,h0,h1⟩:=s
 refine ae (aP f20) aC func20 fun g F hg hF=> ?_
 cbv
 repeat'(first|(refine bI hg (bj _ _ _) rfl (fun R0 ha=> ?_);cases R0<;>cbv)|(refine bf hg (bj _ _ _) rfl (fun R0 ha=> ?_);cases R0<;>cbv)|(refine bI hg (jn _ _) rfl (fun R0 ha=> ?_);cases R0<;>cbv)|(refine bf hg (jn _ _) rfl (fun R0 ha=> ?_);cases R0<;>cbv)|(refine bI hg (ew (⟨⟨hb,hc⟩,⟨hd,he⟩,⟨hf,hi⟩,⟨hj,hk⟩,⟨hl,hm⟩,⟨hn,ho⟩⟩:bK)) rfl (fun R0 ha=> ?_);cases R0<;>cbv)|(refine bf hg (ew (⟨⟨hb,hc⟩,⟨hd,he⟩,⟨hf,hi⟩,⟨hj,hk⟩,⟨hl,hm⟩,⟨hn,ho⟩⟩:bK)) rfl (fun R0 ha=> ?_);cases R0<;>cbv)|(refine bI hg (ew (⟨⟨hp,hq⟩,⟨hr,hs⟩,⟨ht,hu⟩,⟨hv,hw⟩,⟨hx,hy⟩,⟨hz,hA⟩⟩:bK)) rfl (fun R0 ha=> ?_);cases R0<;>cbv)|(refine bf hg (ew (⟨⟨hp,hq⟩,⟨hr,hs⟩,⟨ht,hu⟩,⟨hv,hw⟩,⟨hx,hy⟩,⟨hz,hA⟩⟩:bK)) rfl (fun R0 ha=> ?_);cases R0<;>cbv)|(refine bI hg (eA (⟨hB,hC,hD,hE⟩:dq)) rfl (fun R0 ha=> ?_);cases R0<;>cbv)|(refine bf hg (eA (⟨hB,hC,hD,hE⟩:dq)) rfl (fun R0 ha=> ?_);cases R0<;>cbv)|(refine bI hg (eA (⟨hG,hH,hI,hJ⟩:dq)) rfl (fun R0 ha=> ?_);cases R0<;>cbv)|(refine bf hg (eA (⟨hG,hH,hI,hJ⟩:dq)) rfl (fun R0 ha=> ?_);cases R0<;>cbv)|(split<;>rename_i hh<;>(try rw [hh])<;>(try simp only [fk hg]at hh)<;>cbv))
 all_goals exact aY hF (by clear hF;simp only [gP,stN,stV,zqD,List.all_nil];simp_all)
theorem Ah{a b z:Int}(h:a=b)(hz:z<a):z<b:=h▸hz
theorem C3{xs:List jL}{z M:Int}(hM:M=(xs.length:Int))(hz:M<=z)(h:∀(i:Nat)(v:jL),i<z.toNat->xs[i]? =some v->zOk v=true):xs.all zOk=true:=by
 rw [zqf]
 exact qe hM hz h
theorem C4{xs:List jL}{i:Nat}{v:jL}(h:xs[i]? =some v)(hv:zOk v=false):xs.all zOk=false:=by
 rw [List.all_eq_false]
 exact⟨v,zqd h,by rw [hv];decide⟩
theorem nT(s:ah):PC0 42 [.agg (lc (ah.c s))] (.t (abl (gP s))):=by
 obtain⟨W,hW⟩:=nmE (stV s)
 have xg:(7:Int)=(W.length:Int):=by rw [hW];rfl
 obtain⟨V,hV⟩:=nmE (vw jL.c W)
 have kV:=kmV (k:=2) hV fun _=>rfl
 have pV:=pmV hV
 have xf:aD V=7:=by rw [az,hV,ak,<-xg]
 obtain⟨a0,a1,a2,a3,a4,a5,a6,a7,a8,a9,xb,⟨hS,hT⟩,⟨hU,hX⟩,⟨hY,hZ⟩,⟨h3,h4⟩,⟨h5,h6⟩,⟨h7,h8⟩,⟨h9,xa⟩,xc,⟨⟨hb,hd⟩,⟨he,hf⟩,⟨hh,hk⟩,⟨hl,hm⟩,⟨hn,ho⟩,⟨hp,hq⟩⟩,⟨⟨hr,ht⟩,⟨hu,hw⟩,⟨hy,hz⟩,⟨hA,hC⟩,⟨hD,hE⟩,⟨hG,hH⟩⟩,⟨hI,hJ,hK,hL⟩,⟨hM,hO,hP,hQ⟩,xd,xe⟩:=s
 have xj:V=[[.J hS,.J hT],[.J hU,.J hX],[.J hY,.J hZ],[.J h3,.J h4],[.J h5,.J h6],[.J h7,.J h8],[.J h9,.J xa]]:=by rw [hV,hW];rfl
 refine ae (aP f42) aC func42 fun g F hg hF=> ?_
 cbv
 repeat'(first|(refine bI hg (bq _ _ _) rfl (fun R0 ha=> ?_);cases R0<;>cbv)|(refine bf hg (bq _ _ _) rfl (fun R0 ha=> ?_);cases R0<;>cbv))
 all_goals(try exact aY hF (by clear hF;simp only [gP,stN];simp_all))
 have hN:stN ⟨a0,a1,a2,a3,a4,a5,a6,a7,a8,a9,xb,⟨hS,hT⟩,⟨hU,hX⟩,⟨hY,hZ⟩,⟨h3,h4⟩,⟨h5,h6⟩,⟨h7,h8⟩,⟨h9,xa⟩,xc,⟨⟨hb,hd⟩,⟨he,hf⟩,⟨hh,hk⟩,⟨hl,hm⟩,⟨hn,ho⟩,⟨hp,hq⟩⟩,⟨⟨hr,ht⟩,⟨hu,hw⟩,⟨hy,hz⟩,⟨hA,hC⟩,⟨hD,hE⟩,⟨hG,hH⟩⟩,⟨hI,hJ,hK,hL⟩,⟨hM,hO,hP,hQ⟩,xd,xe⟩=true:=by clear hF;simp only [stN];simp_all
 have xh:gP ⟨a0,a1,a2,a3,a4,a5,a6,a7,a8,a9,xb,⟨hS,hT⟩,⟨hU,hX⟩,⟨hY,hZ⟩,⟨h3,h4⟩,⟨h5,h6⟩,⟨h7,h8⟩,⟨h9,xa⟩,xc,⟨⟨hb,hd⟩,⟨he,hf⟩,⟨hh,hk⟩,⟨hl,hm⟩,⟨hn,ho⟩,⟨hp,hq⟩⟩,⟨⟨hr,ht⟩,⟨hu,hw⟩,⟨hy,hz⟩,⟨hA,hC⟩,⟨hD,hE⟩,⟨hG,hH⟩⟩,⟨hI,hJ,hK,hL⟩,⟨hM,hO,hP,hQ⟩,xd,xe⟩=(W.all zOk&&(yY ⟨⟨hb,hd⟩,⟨he,hf⟩,⟨hh,hk⟩,⟨hl,hm⟩,⟨hn,ho⟩,⟨hp,hq⟩⟩&&(yY ⟨⟨hr,ht⟩,⟨hu,hw⟩,⟨hy,hz⟩,⟨hA,hC⟩,⟨hD,hE⟩,⟨hG,hH⟩⟩&&(zr ⟨hI,hJ,hK,hL⟩&&zr ⟨hM,hO,hP,hQ⟩)))):=by rw [gP,hN,hW];rfl
 rw [xh]at hF
 clear hN xh
 rw [<-xj]
 refine cV hg aC (by kernel_rfl) (fun z:Int=>[(1,.p 0),(87,.o 1),(88,.i (g .ln V)),(89,.i z)]) (fun _=>[.bx 34 60 (lc (ah.c ⟨a0,a1,a2,a3,a4,a5,a6,a7,a8,a9,xb,⟨hS,hT⟩,⟨hU,hX⟩,⟨hY,hZ⟩,⟨h3,h4⟩,⟨h5,h6⟩,⟨h7,h8⟩,⟨h9,xa⟩,xc,⟨⟨hb,hd⟩,⟨he,hf⟩,⟨hh,hk⟩,⟨hl,hm⟩,⟨hn,ho⟩,⟨hp,hq⟩⟩,⟨⟨hr,ht⟩,⟨hu,hw⟩,⟨hy,hz⟩,⟨hA,hC⟩,⟨hD,hE⟩,⟨hG,hH⟩⟩,⟨hI,hJ,hK,hL⟩,⟨hM,hO,hP,hQ⟩,xd,xe⟩)),.rw ⟨28,2,V⟩]) (fun z=>0<=z/\z<=7/\∀(i:Nat)(v:jL),i<z.toNat->W[i]? =some v->zOk v=true) (fun z=>(7:Int).toNat-z.toNat)
  0 [some 0,some 1] ⟨Int.le_refl 0,by omega,fun i v hi=>by simp at hi⟩ (wkS [0,1] (by decide) ⟨⟨_,rfl,rfl,rfl⟩,⟨_,rfl,rfl,pV⟩,trivial⟩ zr4) (fun z B hs hB=> ?_)
 obtain⟨h0,h1,h2⟩:=hs
 cbv
 cases hc:g .q .lss z (g .ln V)
 ·rw [bD hg,bH hg,xf,zqo]at hc
  have xk:=C3 xg (by omega) h2
  cbv
  repeat'(first|(refine bI hg (eE (⟨⟨hb,hd⟩,⟨he,hf⟩,⟨hh,hk⟩,⟨hl,hm⟩,⟨hn,ho⟩,⟨hp,hq⟩⟩:bK)) rfl (fun R0 ha=> ?_);cases R0<;>cbv)|(refine bf hg (eE (⟨⟨hb,hd⟩,⟨he,hf⟩,⟨hh,hk⟩,⟨hl,hm⟩,⟨hn,ho⟩,⟨hp,hq⟩⟩:bK)) rfl (fun R0 ha=> ?_);cases R0<;>cbv)|(refine bI hg (eE (⟨⟨hr,ht⟩,⟨hu,hw⟩,⟨hy,hz⟩,⟨hA,hC⟩,⟨hD,hE⟩,⟨hG,hH⟩⟩:bK)) rfl (fun R0 ha=> ?_);cases R0<;>cbv)|(refine bf hg (eE (⟨⟨hr,ht⟩,⟨hu,hw⟩,⟨hy,hz⟩,⟨hA,hC⟩,⟨hD,hE⟩,⟨hG,hH⟩⟩:bK)) rfl (fun R0 ha=> ?_);cases R0<;>cbv)|(refine bI hg (eP (⟨hI,hJ,hK,hL⟩:dq)) rfl (fun R0 ha=> ?_);cases R0<;>cbv)|(refine bf hg (eP (⟨hI,hJ,hK,hL⟩:dq)) rfl (fun R0 ha=> ?_);cases R0<;>cbv)|(refine bI hg (eP (⟨hM,hO,hP,hQ⟩:dq)) rfl (fun R0 ha=> ?_);cases R0<;>cbv)|(refine bf hg (eP (⟨hM,hO,hP,hQ⟩:dq)) rfl (fun R0 ha=> ?_);cases R0<;>cbv))
  all_goals exact aY hF (by clear hF;simp_all)
 ·rw [bD hg,bH hg,xf,zqp]at hc
  cbv
  obtain⟨x,hx⟩:=uI (xs:=W) h0 (Ah xg hc)
  have xi:V[z.toNat]? =some (lc (jL.c x)):=by rw [hV];exact bu hx
  obtain⟨j,hj⟩:=nmE z.toNat
  obtain⟨x0,x1⟩:=x
  refine D6 hg h0 hj (Ai h0 (by rw [xf];exact hc) hj) ?_
  cbv
  rw [<-hj]at xi
  refine⟨_,xi,?_⟩
  cbv
  refine bI hg (pz x0 x1) rfl (fun R hR=> ?_)
  cases R
  ·cbv
   exact aY hF (by rw [C4 hx hR.symm];rfl)
  ·cbv
   have e1:g .w .add .i64 z 1=z+1:=by rw [aJ hg,aw _ (by omega)]
   rw [e1]
   refine ig hB (z+1) [some 0,some 1] (wkS [0,1] (by decide) ⟨⟨_,rfl,rfl,rfl⟩,⟨_,rfl,rfl,pV⟩,trivial⟩ zr4) ⟨by omega,by omega,fun i v hi hv=> ?_⟩ (by omega)
   by_cases hi2:i<z.toNat
   ·exact h2 i v hi2 hv
   ·rw [show i=z.toNat by omega,hx]at hv
    cases hv
    exact hR.symm
end Go.Proofs.YtbnplcingdgaaaaGreat
