/- A box's copy; what is kept of a node, sought in turn. -/
import Derived.Test.YtckchgoblpgpbaaGreatJ6ar
set_option linter.unusedVariables false
set_option linter.unusedSimpArgs false
set_option maxHeartbeats 4000000
namespace Go.Proofs.YtckchgoblpgpbaaGreat
open Go.ChangeShapes Go.WideShapes Go.ChangeAt Go.RowKit Am Go.Proofs.Tryz
set_option maxRecDepth 100000
abbrev agV(v:jR):AT:= .agg [.J v.kind,.J v.n]
abbrev agP(v:aG):AT:= .agg [.J v.mode,.J v.n]
abbrev agE(e:dI):AT:= .agg [.J e.left,.J e.top,.J e.right,.J e.bottom]
theorem cV(a b:Int):PC0 195 [ai a,ai b] (.i (adE a b)):=by
 refine ae (aM f195) aB func195 fun g F hg hF=> ?_
 cbv
 repeat'(first|(refine bk hg (aq _) rfl (fun R0 ha=> ?_);cbv)|(split<;>rename_i hh<;>(try rw [hh])<;>(try simp only [ew hg]at hh)<;>cbv))
 all_goals exact bj hF (by(try simp only [aJ hg]at *);subst_vars;rfl)
theorem ol(a b:dI):PC0 132 [agE a,agE b] (.t (agE (Ee a b))):=by
 obtain⟨a0,a1,a2,a3⟩:=a
 obtain⟨b0,b1,b2,b3⟩:=b
 refine ae (aM f132) aB func132 fun g F hg hF=> ?_
 cbv
 repeat'(first|(refine aD hg (cV _ _) rfl (fun R0 ha=> ?_);cbv)|(split<;>rename_i hh<;>(try rw [hh])<;>(try simp only [ew hg]at hh)<;>cbv))
 all_goals exact CV hF (by subst_vars;exact⟨rfl,rfl,rfl,rfl⟩)
theorem dh(l t r b:Int):PC0 164 [agE ⟨l,t,r,b⟩] (.i (adE l r)):=by
 refine ae (aM f164) aB func164 fun g F hg hF=> ?_
 cbv
 repeat'(first|(refine bk hg (cV _ _) rfl (fun R0 ha=> ?_);cbv)|(split<;>rename_i hh<;>(try rw [hh])<;>(try simp only [ew hg]at hh)<;>cbv))
 all_goals exact bj hF (by subst_vars;rfl)
theorem dl(l t r b:Int):PC0 165 [agE ⟨l,t,r,b⟩] (.i (adE t b)):=by
 refine ae (aM f165) aB func165 fun g F hg hF=> ?_
 cbv
 repeat'(first|(refine bk hg (cV _ _) rfl (fun R0 ha=> ?_);cbv)|(split<;>rename_i hh<;>(try rw [hh])<;>(try simp only [ew hg]at hh)<;>cbv))
 all_goals exact bj hF (by subst_vars;rfl)
theorem dr(s:ah):PC0 85 [.agg (lc (ah.c s))] (.t (agE (kz s))):=by
 obtain⟨a0,a1,a2,a3,a4,a5,a6,a7,a8,a9,hj,⟨hk,hl⟩,⟨hm,hn⟩,⟨ho,hp⟩,⟨hq,hr⟩,⟨hs,ht⟩,⟨hu,hv⟩,⟨hw,hx⟩,hy,⟨⟨hz,hA⟩,⟨hB,hC⟩,⟨hD,hE⟩,⟨hG,hH⟩,⟨hI,hJ⟩,⟨hK,hL⟩⟩,⟨⟨hM,hN⟩,⟨hO,hP⟩,⟨hQ,hR⟩,⟨hS,hT⟩,⟨hU,hV⟩,⟨hW,hX⟩⟩,⟨ha,hb,hc,hd⟩,⟨he,hf,hh,hi⟩,hY,hZ⟩:=s
 refine ae (aM f85) aB func85 fun g F hg hF=> ?_
 cbv
 refine C5 hg (ol ⟨ha,hb,hc,hd⟩ ⟨he,hf,hh,hi⟩) rfl (fun R0 R1 R2 R3 h0 h1 h2 h3=> ?_)
 cbv
 all_goals exact CV hF (by subst_vars;exact⟨rfl,rfl,rfl,rfl⟩)
theorem ia(s:ah)(w:Bool):PC0 193 [.agg (lc (ah.c s)),abl w] (.i (yo s w)):=by
 cases w<;>(refine ae (aM f193) aB func193 fun g F hg hF=> ?_;cbv;repeat'(first|((first|refine C5 hg (dr s) rfl (fun R0 R1 R2 R3 ha hb hc hd=> ?_)|refine bk hg (dh _ _ _ _) rfl (fun R0 ha=> ?_)|refine bk hg (dl _ _ _ _) rfl (fun R0 ha=> ?_));cbv)|(split<;>rename_i hh<;>(try rw [hh])<;>(try simp only [ew hg]at hh)<;>cbv)))
 all_goals exact bj hF (by subst_vars;rfl)
theorem eE(w:Bool)(a b c d:Int):PC0 167 [abl w,.agg [.J a,.J b],.agg [.J c,.J d]] (.t (agV (if w then⟨a,b⟩else⟨c,d⟩))):=by
 cases w<;>(refine ae (aM f167) aB func167 fun g F hg hF=> ?_;cbv;repeat'(first|(split<;>rename_i hh<;>(try rw [hh])<;>(try simp only [ew hg]at hh)<;>cbv)))
 all_goals exact sw hF (by exact⟨rfl,rfl⟩)
theorem gf(s:ah)(w:Bool)(b:Int):PC0 130 [.agg (lc (ah.c s)),abl w,ai b] (.i (BD s w b)):=by
 cases w<;>(refine ae (aM f130) aB func130 fun g F hg hF=> ?_;cbv;repeat'(first|((first|refine jz hg (eE _ _ _ _ _) rfl (fun R0 R1 ha hb=> ?_)|refine aD hg (di _ _ _) rfl (fun R0 ha=> ?_)|refine aD hg (kt _ _) rfl (fun R0 ha=> ?_)|refine aD hg (ia s _) rfl (fun R0 ha=> ?_));cbv)|(split<;>rename_i hh<;>(try rw [hh])<;>(try simp only [ew hg]at hh)<;>cbv)))
 all_goals exact bj hF (by simp only [BD,zq hg];subst_vars;first|rfl|(split<;>first|rfl|contradiction|omega)|grind)
theorem gJ(s:ah)(w:Bool)(b:Int):PC0 131 [.agg (lc (ah.c s)),abl w,ai b] (.i (Cr s w b)):=by
 cases w<;>(refine ae (aM f131) aB func131 fun g F hg hF=> ?_;cbv;repeat'(first|((first|refine ov hg (eE _ _ _ _ _) rfl (fun R0 R1 ha hb=> ?_)|refine bk hg (di _ _ _) rfl (fun R0 ha=> ?_));cbv)|(split<;>rename_i hh<;>(try rw [hh])<;>(try simp only [ew hg]at hh)<;>cbv)))
 all_goals exact bj hF (by subst_vars;rfl)
theorem bL(s:ah)(w:Bool)(b:Int):PC0 121 [.agg (lc (ah.c s)),abl w,ai b] (.i (rz s w b)):=by
 cases w<;>(refine ae (aM f121) aB func121 fun g F hg hF=> ?_;cbv;repeat'(first|((first|refine ov hg (eE _ _ _ _ _) rfl (fun R0 R1 ha hb=> ?_)|refine bk hg (di _ _ _) rfl (fun R0 ha=> ?_));cbv)|(split<;>rename_i hh<;>(try rw [hh])<;>(try simp only [ew hg]at hh)<;>cbv)))
 all_goals exact bj hF (by subst_vars;rfl)
theorem bq(s:ah)(w:Bool)(b n:Int):PC0 84 [.agg (lc (ah.c s)),abl w,ai b,ai n] (.i (kF s w b n)):=by
 refine ae (aM f84) aB func84 fun g F hg hF=> ?_
 cbv
 repeat'(first|((first|refine aD hg (gf s _ _) rfl (fun R0 ha=> ?_)|refine aD hg (gJ s _ _) rfl (fun R0 ha=> ?_)|refine aD hg (gI _ _ _) rfl (fun R0 ha=> ?_)|refine aD hg (aq _) rfl (fun R0 ha=> ?_));cbv)|(split<;>rename_i hh<;>(try rw [hh])<;>(try simp only [ew hg]at hh)<;>cbv))
 all_goals exact bj hF (by subst_vars;rfl)
variable {w:World}{F:Nat->Prop}
theorem xg:∀(j:Nat)(x:AT),([]:List AT)[j]? =some x->∃v,([]:List Value)[j]? =some v/\RT F w [] [] x v:=fun j x h=>by simp at h
theorem uZ{x:AT}{v:Value}{xs:List AT}{vs:List Value}(h1:RT F w [] [] x v)(h2:∀(j:Nat)(x:AT),xs[j]? =some x->∃v,vs[j]? =some v/\RT F w [] [] x v):
  ∀(j:Nat)(y:AT),(x::xs)[j]? =some y->∃u,(v::vs)[j]? =some u/\RT F w [] [] y u:=fun j y h=>by
 cases j with
 |zero=>simp only [zqw,zqy]at h;subst h;exact⟨v,rfl,h1⟩
 |succ j=>exact h2 j y (by simpa using h)
def wv(s:ah)(w:Int):Int:=cl (wrap64 (cl w-adE s.border.left s.border.right))
def xU(s:ah)(h:Int):Int:=cl (wrap64 (cl h-adE s.border.top s.border.bottom))
theorem qh(s:ah)(w h:Int):PC0 120 [.agg (lc (ah.c s)),ai w,ai h] (.tup [ai (wv s w),ai (xU s h)]):=by
 refine ae (aM f120) aB func120 fun g F hg hF=> ?_
 cbv
 repeat'(first|((first|refine aD hg (aq _) rfl (fun R0 ha=> ?_)|refine aD hg (dh _ _ _ _) rfl (fun R0 ha=> ?_)|refine aD hg (dl _ _ _ _) rfl (fun R0 ha=> ?_));cbv)|(split<;>rename_i hh<;>(try rw [hh])<;>(try simp only [ew hg]at hh)<;>cbv))
 all_goals exact uR hF (by(try simp only [dP hg]at *);subst_vars;exact⟨rfl,rfl⟩)
theorem bE(n:Int):PC0 93 [ai n] (.t (.agg [.J 3,.J n])):=by
 refine ae (aM f93) aB func93 fun g F hg hF=> ?_
 cbv
 all_goals exact sw hF (by exact⟨rfl,rfl⟩)
theorem gV(s:ah)(w:Bool)(n:Int):PC0 141 [.agg (lc (ah.c s)),abl w,ai n] (.t (agP (nX s w n))):=by
 refine ae (aM f141) aB func141 fun g F hg hF=> ?_
 cbv
 repeat'(first|((first|refine bk hg (bL s _ _) rfl (fun R0 ha=> ?_)|refine bk hg (bq s _ _ _) rfl (fun R0 ha=> ?_)|refine ov hg (bE _) rfl (fun R0 R1 ha hb=> ?_));cbv)|(split<;>rename_i hh<;>(try rw [hh])<;>(try simp only [ew hg]at hh)<;>cbv))
 all_goals exact sw hF (by simp only [nX];subst_vars;grind)
theorem li(s:ah)(w h:Int):PC0 100 [.agg (lc (ah.c s)),ai w,ai h] (.tup [agP (nX s true w),agP (nX s false h)]):=by
 refine ae (aM f100) aB func100 fun g F hg hF=> ?_
 cbv
 repeat'(first|(refine jz hg (gV s _ _) rfl (fun R0 R1 ha hb=> ?_);cbv)|(split<;>rename_i hh<;>(try rw [hh])<;>(try simp only [ew hg]at hh)<;>cbv))
 all_goals exact CU hF (by subst_vars;exact⟨rfl,rfl,rfl,rfl⟩)
variable {α:Type}{xs:List α}
theorem BT.len{k:Nat}{c:α->Array Value}{v:Value}(h:BT k c w v xs):xs.length<=9223372036854775807:=by
 obtain⟨p,cap,_,h1,h2,_⟩:=h
 exact Nat.le_trans h1 (Nat.le_trans h2 (by decide))
theorem vp(c:α->Array Value)(xs:List α):so (vw c xs)=true:=by
 simp only [so,vw,List.all_map,zqf]
 intro x _
 simp [lc]
variable {V:LLA}
theorem imV{c:α->Array Value}(h:V=vw c xs):so V=true:=by rw [h];exact vp _ _
def DN(gap z:Int):Int:=if 0<z then gap*(z-1)else 0
def BF(x:aj):Int:=x.before+x.behind
def ji(xs:List aj)(ys:List Int)(gap:Int):Int:=(xs.map BF).sum+DN gap xs.length+(ys.map id).sum
theorem dN(xs:List aj)(ys:List Int)(gap:Int)(hx:xs.length<=1048576)(hy:ys.length<=1048576):PC0 284 [.c (.view (vw aj.c xs)),.c (.view (vw ak ys)),ai gap] (.i (wrap64 (ji xs ys gap))):=by
 obtain⟨V,hV⟩:=nmE (vw aj.c xs)
 obtain⟨W,hW⟩:=nmE (vw ak ys)
 have hk:=lmV hV
 have hl:=lmV hW
 rw [<-hV,<-hW]
 refine ae (aM f284) aB func284 fun g F hg hF=> ?_
 cbv
 refine bV hg aB (by kernel_rfl) (fun s:Int×Int=>[(0,.v V),(2,.i gap),(7,.i s.2),(12,.v W),(13,.i (g .ln W)),(14,.i s.1)]) (fun _=>[]) (fun s=>0<=s.1/\s.1<=aC W/\s.2=wrap64 (uz id ys s.1.toNat)) (fun s=>W.length-s.1.toNat)
  (0,0) [] ⟨Int.le_refl 0,by have:=ar W;simp only;omega,by rw [show((0,0):Int×Int).1.toNat=0 from rfl,j7];exact(az 0 (by omega)).symm⟩ (wk0 zr6) (fun s B hs hB=> ?_)
 obtain⟨z,a⟩:=s
 obtain⟨h0,h1,h2⟩:=hs
 simp only at h0 h1 h2
 cbv
 cases hc:g .q .lss z (g .ln W)
 ·rw [bF hg,bO hg,zqo]at hc
  cbv
  have ha:a=wrap64 ((ys.map id).sum):=by rw [h2,l9 id (by have:=ar W;omega)]
  refine bV hg aB (by kernel_rfl) (fun s:Int×Int=>[(0,.v V),(2,.i gap),(7,.i s.2),(22,.v V),(23,.i (g .ln V)),(24,.i s.1)]) (fun _=>[]) (fun s=>0<=s.1/\s.1<=aC V/\s.2=wrap64 ((ys.map id).sum+uz BF xs s.1.toNat)) (fun s=>V.length-s.1.toNat)
   (0,a) [] ⟨Int.le_refl 0,by have:=ar V;simp only;omega,by rw [show((0,a):Int×Int).1.toNat=0 from rfl,j7,Int.add_zero];exact ha⟩ (wk0 zr6) (fun s B2 hs hi=> ?_)
  obtain⟨y,b⟩:=s
  obtain⟨k0,k1,k2⟩:=hs
  simp only at k0 k1 k2
  cbv
  cases hd:g .q .lss y (g .ln V)
  ·rw [bF hg,bO hg,zqo]at hd
   cbv
   have kb:b=wrap64 ((ys.map id).sum+(xs.map BF).sum):=by rw [k2,l9 BF (by have:=ar V;omega)]
   have hb:=ar V
   cases he:g .q .gtr (g .ln V) 0
   ·rw [dD hg,bO hg,zqo]at he
    cbv
    have hb:=ar V
    exact bj hF (by rw [kb];unfold ji DN;rw [if_neg (by omega)];exact congrArg wrap64 (by omega))
   ·rw [dD hg,bO hg,zqp]at he
    cbv
    have hb:=ar V
    exact bj hF (by
     rw [aJ hg,ic hg,dP hg,bO hg,az (aC V-1) (by omega),kb,vl,yS]
     unfold ji DN
     rw [if_pos (by omega),show aC V=(xs.length:Int) by omega]
     exact congrArg wrap64 (by omega))
  ·rw [bF hg,bO hg,zqp]at hd
   cbv
   have hb:=ar V
   obtain⟨x,hf⟩:=ub (xs:=xs) k0 (by omega)
   have hh:V[y.toNat]? =some (lc (aj.c x)):=by rw [hV];exact bv hf
   have hj:=j8 BF hf
   obtain⟨a0,a1,a2,a3,a4,a5,a6,a7,a8⟩:=x
   refine goX hg _ k0 hh rfl ?_
   cbv
   have hb:=ar V
   have e1:g .w .add .i64 y 1=y+1:=by rw [aJ hg,az _ (by omega)]
   rw [e1,aJ hg,aJ hg]
   refine gA hi (y+1,_) [] (wkS [] (by decide) trivial zr6) ⟨by simp only;omega,by simp only;omega,?_⟩ (by show V.length-(y+1).toNat<V.length-y.toNat;omega)
   show wrap64 (b+wrap64 (a5+a6))=_
   rw [show(y+1).toNat=y.toNat+1 by omega,hj,k2,vl,yS]
   exact congrArg wrap64 (by simp only [BF];omega)
 ·rw [bF hg,bO hg,zqp]at hc
  cbv
  have hb:=ar W
  obtain⟨x,hf⟩:=ub (xs:=ys) h0 (by omega)
  have hh:W[z.toNat]? =some (lc (ak x)):=by rw [hW];exact bv hf
  refine goX hg _ h0 hh rfl ?_
  cbv
  have hb:=ar W
  have e1:g .w .add .i64 z 1=z+1:=by rw [aJ hg,az _ (by omega)]
  rw [e1,aJ hg]
  refine gA hB (z+1,_) [] (wk0 zr6) ⟨by simp only;omega,by simp only;omega,?_⟩ (by show W.length-(z+1).toNat<W.length-z.toNat;omega)
  show wrap64 (a+x)=_
  rw [show(z+1).toNat=z.toNat+1 by omega,j8 id hf,h2,vl];rfl
def vwA(c:α->List AC)(xs:List α):LLA:=xs.map c
theorem bi(c:α->List AC)(xs:List α):(vwA c xs).length=xs.length:=by simp [vwA]
theorem fy{c:α->List AC}{i:Nat}{x:α}(h:xs[i]? =some x):(vwA c xs)[i]? =some (c x):=by simp [vwA,h]
theorem Dw{c:α->List AC}{k:Nat}(hk:∀x,(c x).length=k):∀y∈vwA c xs,y.length=k:=by
 intro y hy
 simp only [vwA,List.mem_map]at hy
 obtain⟨x,_,rfl⟩:=hy
 exact hk x
theorem zS{c:α->List AC}(hd:∀x,(c x).all dat=true):∀y∈vwA c xs,y.all dat=true:=by
 intro y hy
 simp only [vwA,List.mem_map]at hy
 obtain⟨x,_,rfl⟩:=hy
 exact hd x
theorem vr{c:α->List AC}(hp:∀x,(c x).all dX=true)(xs:List α):aO (vwA c xs)=true:=by
 simp only [aO,zqf]
 intro y hy
 simp only [vwA,List.mem_map]at hy
 obtain⟨x,_,rfl⟩:=hy
 exact List.all_eq_true.1 (hp x)
theorem gc{n:Nat}{a z:Int}(h:a=(n:Int))(hz:z<a):z<(n:Int):=h▸hz
variable {j:Nat}{z:Int}
theorem Ar{es:LLA}(h0:0<=z)(hc:z<aC es)(hj:j=z.toNat):j<es.length:=by subst hj;rw [ar]at hc;omega
theorem qB{p:α->Prop}{M z:Int}(hM:M=(xs.length:Int))(hz:M<=z)(h:∀(i:Nat)(y:α),i<z.toNat->xs[i]? =some y->p y):∀y∈xs,p y:=fun y hy=>by
 obtain⟨i,hi,he⟩:=List.getElem_of_mem hy
 exact h i y (by omega) (by rw [zqc hi,he])
variable {P:Program}{g:Gd}{K:Nat->Prop}
theorem En{n0 N:Nat}(hg:g=G0 P n0 N){xs:LLA}{j k:Nat}(hz:0<=z)(hj:j=z.toNat)(hy:j<xs.length)(hK:K j):g .Y k xs z K:=by subst hg hj;exact⟨hz,hy,hK⟩
structure zL where
 rules:List aK
structure af where
 up:Int
 kids:List Int
 style:ah
 measured:Bool
 table:zL
def af.ac:af->List AC
 |⟨a0,a1,⟨a2,a3,a4,a5,a6,a7,a8,a9,a10,a11,a12,⟨a13,a14⟩,⟨a15,a16⟩,⟨a17,a18⟩,⟨a19,a20⟩,⟨a21,a22⟩,⟨a23,a24⟩,⟨a25,a26⟩,a27,⟨⟨a28,a29⟩,⟨a30,a31⟩,⟨a32,a33⟩,⟨a34,a35⟩,⟨a36,a37⟩,⟨a38,a39⟩⟩,⟨⟨a40,a41⟩,⟨a42,a43⟩,⟨a44,a45⟩,⟨a46,a47⟩,⟨a48,a49⟩,⟨a50,a51⟩⟩,⟨a52,a53,a54,a55⟩,⟨a56,a57,a58,a59⟩,a60,a61⟩,a62,⟨a63⟩⟩=>[.imm (.int .i64 a0),.view (vw ak a1),.imm (.int .i64 a2),.imm (.int .i64 a3),.imm (.int .i64 a4),.imm (.int .i64 a5),.imm (.int .i64 a6),.imm (.int .i64 a7),.imm (.bool a8),.imm (.bool a9),.imm (.int .i64 a10),.imm (.int .i64 a11),.imm (.int .i64 a12),.imm (.int .i64 a13),.imm (.int .i64 a14),.imm (.int .i64 a15),.imm (.int .i64 a16),.imm (.int .i64 a17),.imm (.int .i64 a18),.imm (.int .i64 a19),.imm (.int .i64 a20),.imm (.int .i64 a21),.imm (.int .i64 a22),.imm (.int .i64 a23),.imm (.int .i64 a24),.imm (.int .i64 a25),.imm (.int .i64 a26),.imm (.int .i64 a27),.imm (.int .i64 a28),.imm (.int .i64 a29),.imm (.int .i64 a30),.imm (.int .i64 a31),.imm (.int .i64 a32),.imm (.int .i64 a33),.imm (.int .i64 a34),.imm (.int .i64 a35),.imm (.int .i64 a36),.imm (.int .i64 a37),.imm (.int .i64 a38),.imm (.int .i64 a39),.imm (.int .i64 a40),.imm (.int .i64 a41),.imm (.int .i64 a42),.imm (.int .i64 a43),.imm (.int .i64 a44),.imm (.int .i64 a45),.imm (.int .i64 a46),.imm (.int .i64 a47),.imm (.int .i64 a48),.imm (.int .i64 a49),.imm (.int .i64 a50),.imm (.int .i64 a51),.imm (.int .i64 a52),.imm (.int .i64 a53),.imm (.int .i64 a54),.imm (.int .i64 a55),.imm (.int .i64 a56),.imm (.int .i64 a57),.imm (.int .i64 a58),.imm (.int .i64 a59),.imm (.int .i64 a60),.imm (.int .i64 a61),.imm (.bool a62),.view (vw aK.c a63)]
def af.small:af->Prop
 |⟨a0,a1,⟨a2,a3,a4,a5,a6,a7,a8,a9,a10,a11,a12,⟨a13,a14⟩,⟨a15,a16⟩,⟨a17,a18⟩,⟨a19,a20⟩,⟨a21,a22⟩,⟨a23,a24⟩,⟨a25,a26⟩,a27,⟨⟨a28,a29⟩,⟨a30,a31⟩,⟨a32,a33⟩,⟨a34,a35⟩,⟨a36,a37⟩,⟨a38,a39⟩⟩,⟨⟨a40,a41⟩,⟨a42,a43⟩,⟨a44,a45⟩,⟨a46,a47⟩,⟨a48,a49⟩,⟨a50,a51⟩⟩,⟨a52,a53,a54,a55⟩,⟨a56,a57,a58,a59⟩,a60,a61⟩,a62,⟨a63⟩⟩=>a1.length<=1048576/\a63.length<=1048576/\True
structure lw where
 wide:Int
 high:Int
 base:Int
 frames:List ag
def lw.ac:lw->List AC
 |⟨a0,a1,a2,a3⟩=>[.imm (.int .i64 a0),.imm (.int .i64 a1),.imm (.int .i64 a2),.view (vw ag.c a3)]
def jT(lo:Nat)(bs:List Nat):Prop:=bs.Nodup/\∀b∈bs,lo<=b
variable {lo lo':Nat}
theorem jT.mono{bs:List Nat}(h:lo<=lo')(hn:jT lo' bs):jT lo bs:=⟨hn.1,fun b hb=>Nat.le_trans h (hn.2 b hb)⟩
theorem jT.nil(lo:Nat):jT lo []:=⟨List.nodup_nil,fun b hb=>by simp at hb⟩
theorem jT.app{ps bs:List Nat}(h:lo<=lo')(ha:jT lo ps)(hb:jT lo' bs)(hlt:∀b∈ps,b<lo'):jT lo (ps++bs):=
 ⟨List.nodup_append.2 ⟨ha.1,hb.1,fun a h1 b h2 he=>by have:=hlt a h1;have:=hb.2 b h2;omega⟩,fun b hc=>(List.mem_append.1 hc).elim (ha.2 b) fun h2=>Nat.le_trans h (hb.2 b h2)⟩
theorem wM(h:so V=true):∀y∈V,∀c∈y,∃u,c= .imm u:=fun y hy c hc=>by
 unfold so at h
 have:=List.all_eq_true.1 (List.all_eq_true.1 h y hy) c hc
 cases c<;>first|exact⟨_,rfl⟩|cases this
theorem CF(h:so V=true):V.map (·.map vwC)=V:=by
 refine(List.map_congr_left (g:=id) fun x hx=> ?_).trans (List.map_id V)
 refine(List.map_congr_left (g:=id) fun c hc=> ?_).trans (List.map_id x)
 obtain⟨u,rfl⟩:=wM h x hx c hc
 rfl
theorem CG(h:so V=true):fpE V=[]:=by
 unfold fpE
 rw [List.flatMap_eq_nil_iff]
 intro y hy
 unfold fpL
 rw [List.flatMap_eq_nil_iff]
 intro c hc
 obtain⟨u,rfl⟩:=wM h y hy c hc
 rfl
theorem sE{e:List AC}(h:e.all jP=true):e.all dX=true:=List.all_eq_true.2 fun c hc=>by
 have:=List.all_eq_true.1 h c hc
 cases c<;>first|rfl|cases this
theorem d7{es:LLA}(h:∀e∈es,e.all jP=true):aO es=true:=List.all_eq_true.2 fun e he=>sE (h e he)
variable {h:AH}
theorem uw{bl:Nat->Nat}{c:AC}(hb:jP c=true):o9 bl h c c:=by
 cases c<;>first|exact .imm _|exact .fv _ _|cases hb
variable {r:Nat}{ab:AB}
theorem qU{bl:Nat->Nat}(hr:h[r]? =some (.live ab))(hb:∀e∈ab.es,e.all jP=true):o9 bl h (.own r) (.fv (hd1 (bl r) ab.es++fpE ab.es) (ab.es.map (·.map vwC))):=
 .row r ab ab.es hr rfl (fun i x y hx hy=>by rw [hx]at hy;cases hy;rfl) fun i x y hx hy j c d hc hd=>by
  rw [hx]at hy
  cases hy
  rw [hc]at hd
  cases hd
  exact uw (List.all_eq_true.1 (hb x (zqd hx)) c (zqd hc))
theorem xd{lo:Nat}{bl:Nat->Nat}{xs:List AT}(hb:yO lo bl h xs)(hr:h[r]? =some (.live ab)):jT lo (hd1 (bl r) ab.es):=by
 cases he:ab.es with
 |nil=>exact jT.nil lo
 |cons e es=>exact⟨by simp [hd1],fun b ha=>by simp only [hd1,List.mem_singleton]at ha;subst ha;exact(hb r ab hr (by rw [he];simp)).1⟩
theorem en{lo:Nat}{bl:Nat->Nat}{xs:List AT}(hb:yO lo bl h xs)(hr:h[r]? =some (.live ab))(hn:jT lo (fpE ab.es)):jT lo (hd1 (bl r) ab.es++fpE ab.es):=by
 refine⟨List.nodup_append.2 ⟨(xd hb hr).1,hn.1,fun a h1 b h2 he=> ?_⟩,fun b ha=>(List.mem_append.1 ha).elim ((xd hb hr).2 b) (hn.2 b)⟩
 subst he
 cases hes:ab.es with
 |nil=>rw [hes]at h1;simp [hd1]at h1
 |cons e es=>
  rw [hes]at h1
  simp only [hd1,List.mem_singleton]at h1
  subst h1
  obtain⟨x,hx,ha⟩:=List.mem_flatMap.1 h2
  obtain⟨c,hc,hd⟩:=List.mem_flatMap.1 ha
  exact(hb r ab hr (by rw [hes];simp)).2.2.1 r ab hr x hx c hc hd
theorem D8{n0 N:Nat}{β:BP}(hg:g=G0 P n0 N){xs:LLA}{j k:Nat}(hz:0<=z)(hj:j=z.toNat)(hy:j<xs.length)(hK:K j):g .Y k xs z K:=by subst hg hj;exact⟨hz,hy,hK⟩
structure dx(G es:LLA)(z:Int):Prop where
 z0:0<=z
 z1:z<=aC G
 eq:es=G.take z.toNat
section
variable {P:Program}{n0 N:Nat}{g:Gd}
theorem CJ(hg:g=G0 P n0 N){xs:LLA}{z:Int}{j k:Nat}{K:Nat->Prop}(hz:0<=z)(hj:j=z.toNat)(hy:j<xs.length)(hK:K j):g .Y k xs z K:=by subst hg hj;exact⟨hz,hy,hK⟩
end
def m3(k:Int):Bool:=k.tmod 3==0
variable {y:List AC}
theorem xJ{E:LLA}(h:E[j]? =some y):E.set j y=E:=by
 refine List.ext_getElem? fun i=> ?_
 rw [List.getElem?_set]
 by_cases hi:j=i
 ·subst hi;rw [if_pos rfl,if_pos (List.getElem?_eq_some_iff.1 h).1,h]
 ·rw [if_neg hi]
theorem qY{E:LLA}(h:aO E=true)(hy:y.all dX=true):aO (E.set j y)=true:=by
 rw [aO,zqf]at h⊢
 intro x hx
 rcases List.mem_or_eq_of_mem_set hx with hx|rfl
 ·exact h x hx
 ·exact hy
theorem vH{n0 N:Nat}{β:BP}(hg:g=G0 P n0 N){E E1 E2:LLA}{x y:List AC}(h:g .st E1 j x=E2)(hs:E1=E.set j y)(hl:j<E.length):E2=E.set j x/\E2[j]? =some x/\j<E2.length:=by
 rw [qI hg,hs,List.set_set]at h
 subst h
 exact⟨rfl,List.getElem?_set_self hl,by rw [List.length_set];exact hl⟩
theorem Ep{n0 N:Nat}{β:BP}(hg:g=G0 P n0 N){k by_:Nat}{q:Prop}(hk:∀y∈V,y.length=k)(hb:by_<=65536)(hl:V.length<=1048576)(hq:q):
  g .N ((∀x,x∈V->x.length=k)/\V.length*by_<=140737488355328/\V.length<=4611686018427387904) q:=
 goN hg ⟨hk,Nat.le_trans (Nat.mul_le_mul hl hb) (by decide),by omega⟩ hq
theorem AP{n0 N:Nat}{β:BP}(hg:g=G0 P n0 N){t k k' by_:Nat}{q:Prop}(hk:∀y∈V,y.length=k)(hb:by_<=65536)(hl:V.length<=1048576)(hq:q):
  g .N ((∀x,x∈V->x.length=k)/\((AB.mk t k' []).es.length+V.length)*by_<=140737488355328/\(AB.mk t k' []).es.length+V.length<=4611686018427387904) q:=
 goN hg ⟨hk,Nat.le_trans (Nat.mul_le_mul (show(0:Nat)+V.length<=1048576 by omega) hb) (by decide),by show 0+V.length<=_;omega⟩ hq
section
variable {P:Program}{n0 N:Nat}{g:Gd}
theorem qp{F:List AT->EH->Prop}{w h b:Int}{r:Nat}{eh:EH}{ab:AB}(hF:F=jS 0 (fun res h'=>∃rows,h'=rows.map .live/\(res= .t (.agg [.J w,.J h,.J b,.own 0])/\rows=[ab])))(hr:nth eh r=some (.rw ab))(hp:aO ab.es=true):
  F [.agg [.J w,.J h,.J b,.own r]] eh:=by
 subst hF
 refine .inl ⟨.t (.agg [.J w,.J h,.J b,.own 0]),[.live ab],[some r],⟨Nat.zero_le _,fun i hi=>absurd hi (Nat.not_lt_zero _),by simp,?_,?_⟩,[ab],rfl,rfl,rfl⟩
 ·simp only [rnH,zqw,dJ hr]
  exact⟨fun h=>absurd h (Nat.not_lt_zero _),⟨by first|trivial|rfl,by first|trivial|rfl,.inl ⟨by first|trivial|rfl,hp⟩⟩,trivial⟩
 ·exact⟨.inr zr4,trivial⟩
theorem qx{β:BP}(hg:g=G0 P n0 N){h:EH}{f:FuncId}{args:List AT}{K:AV->EH->Prop}{a b c:Int}{ab:AB}(hc:cj P f args fun res hb=>res= .t (.agg [.J a,.J b,.J c,.own 0])/\hb=[ab])(hd:fS args=true)(hp:aO ab.es=true)
  (hK:K (.t (.agg [.J a,.J b,.J c,.own (jH h)])) (h++[.rw ab])):g .C f h args K:=
 qw hg (eD hc hd fun res hb ha=>by
  obtain⟨rfl,rfl⟩:=ha
  rw [bR]at hK
  refine⟨[.rw ab],by simp only [zqA,List.map_nil,fN hp];rfl,?_⟩
  rw [aQ];exact hK)
end
theorem lh(xs:List ag)(hx:xs.length<=1048576):cj prog 43 [.c (.view (vw ag.c xs))] fun res ha=>res= .o 0/\ha=[⟨45,5,vw ag.c xs⟩]:=by
 obtain⟨V,hV⟩:=nmE (vw ag.c xs)
 have hb:=lmV hV
 have iV:=imV hV
 have kV:=kmV (k:=5) hV fun _=>rfl
 have dV:=dmV hV
 rw [<-hV]
 refine ae (aM f43) aB func43 fun g F hg hF=> ?_
 cbv
 refine Ep hg kV (by decide) (by rw [hb];exact hx) ?_
 cbv
 rw [ig hg,List.nil_append]
 exact db hF rfl (eI iV)
end Go.Proofs.YtckchgoblpgpbaaGreat
