/- Tables, nodes of a tree, their depth. -/
import Derived.Test.YtdnnffbbhijmkaaGreatQav
set_option linter.unusedVariables false
set_option linter.unusedSimpArgs false
set_option maxHeartbeats 8000000
namespace Go.Proofs.YtdnnffbbhijmkaaGreat
open Go.ChangeShapes Go.WideShapes Go.ChangeAt Go.RowKit Am Go.Proofs.Tryz
set_option maxRecDepth 100000
def rng(n l m:Int):Bool:=decide (l≤n)&&decide (n≤m)
def vOk(v:bO):Bool:=if v.kind=0∨v.kind=3 then decide (v.n=0)else if v.kind=1 then rng v.n (-1048576) 1048576 else if v.kind=2 then rng v.n (-1000) 1000 else false
def zOk(v:bO):Bool:=vOk v&&decide (0≤v.n)
def CL(s:bd):Bool:=vOk s.left&&(vOk s.top&&(vOk s.right&&(vOk s.bottom&&(vOk s.start&&vOk s.fin))))
def C9(e:bu):Bool:=rng e.left 0 1048576&&(rng e.top 0 1048576&&(rng e.right 0 1048576&&rng e.bottom 0 1048576))
def stV(s:ar):List bO:=[s.basis,s.width,s.height,s.minWidth,s.minHeight,s.maxWidth,s.maxHeight]
def stN(s:ar):Bool:=rng s.dir 1 4&&(rng s.wrap 1 3&&(rng s.justify 1 6&&(rng s.items 1 5&&(rng s.self 0 5&&(rng s.content 1 6&&(rng s.order (-1000) 1000&&(rng s.grow 0 1000&&(rng s.shrink 0 1000&&(rng s.ratio 0 6400&&(rng s.rowGap 0 1048576&&rng s.colGap 0 1048576))))))))))
def zq(s:ar):Bool:=stN s&&((stV s).all zOk&&(CL s.margin&&(CL s.inset&&(C9 s.pad&&C9 s.border))))
theorem bm(n l m:Int):PC0 149 [ai n,ai l,ai m] (.t (abl (rng n l m))):=bI n l m
theorem bS(n l m:Int):PC0 154 [ai n,ai l,ai m] (.t (abl (rng n l m))):=da n l m
theorem fT(k n:Int):PC0 305 [.agg [.J k,.J n]] (.t (abl (vOk ⟨k,n⟩))):=by
 refine ae (aK f305) aD func305 fun g F hg hF=> ?_
 cbv
 repeat'(first|(refine br hg (bm _ _ _) rfl (fun R0 hR0=> ?_);cases R0<;>cbv)|(refine aZ hg (bm _ _ _) rfl (fun R0 hR0=> ?_);cases R0<;>cbv)|(split<;>rename_i hh<;>(try rw [hh])<;>(try simp only [dp hg]at hh)<;>cbv))
 all_goals exact bj hF (by(try simp only [bv hg]);simp only [vOk];grind)
theorem gg(k n:Int):PC0 306 [.agg [.J k,.J n]] (.t (abl (vOk ⟨k,n⟩))):=by
 refine ae (aK f306) aD func306 fun g F hg hF=> ?_
 cbv
 repeat'(first|(refine br hg (bS _ _ _) rfl (fun R0 hR0=> ?_);cases R0<;>cbv)|(refine aZ hg (bS _ _ _) rfl (fun R0 hR0=> ?_);cases R0<;>cbv)|(split<;>rename_i hh<;>(try rw [hh])<;>(try simp only [dp hg]at hh)<;>cbv))
 all_goals exact bj hF (by(try simp only [bv hg]);simp only [vOk];grind)
theorem l6(k n:Int):PC0 230 [.agg [.J k,.J n]] (.t (abl (zOk ⟨k,n⟩))):=by
 refine ae (aK f230) aD func230 fun g F hg hF=> ?_
 cbv
 repeat'(first|(refine br hg (fT _ _) rfl (fun R0 hR0=> ?_);cases R0<;>cbv)|(refine aZ hg (fT _ _) rfl (fun R0 hR0=> ?_);cases R0<;>cbv)|(split<;>rename_i hh<;>(try rw [hh])<;>(try simp only [dp hg]at hh)<;>cbv))
 all_goals exact bj hF (by(try simp only [gO hg]);simp only [zOk];grind)
theorem uk(k n:Int):PC0 234 [.agg [.J k,.J n]] (.t (abl (zOk ⟨k,n⟩))):=by
 refine ae (aK f234) aD func234 fun g F hg hF=> ?_
 cbv
 repeat'(first|(refine br hg (gg _ _) rfl (fun R0 hR0=> ?_);cases R0<;>cbv)|(refine aZ hg (gg _ _) rfl (fun R0 hR0=> ?_);cases R0<;>cbv)|(split<;>rename_i hh<;>(try rw [hh])<;>(try simp only [dp hg]at hh)<;>cbv))
 all_goals exact bj hF (by(try simp only [gO hg]);simp only [zOk];grind)
theorem fU(s:bd):PC0 231 [.agg (lc (bd.c s))] (.t (abl (CL s))):=by
 obtain⟨⟨a0,a1⟩,⟨a2,a3⟩,⟨a4,a5⟩,⟨a6,a7⟩,⟨a8,a9⟩,⟨a10,a11⟩⟩:=s
 refine ae (aK f231) aD func231 fun g F hg hF=> ?_
 cbv
 repeat'(first|(refine br hg (fT _ _) rfl (fun R0 hR0=> ?_);cases R0<;>cbv)|(refine aZ hg (fT _ _) rfl (fun R0 hR0=> ?_);cases R0<;>cbv)|(split<;>rename_i hh<;>(try rw [hh])<;>(try simp only [dp hg]at hh)<;>cbv))
 all_goals exact bj hF (by simp only [CL];simp_all)
theorem gj(s:bd):PC0 235 [.agg (lc (bd.c s))] (.t (abl (CL s))):=by
 obtain⟨⟨a0,a1⟩,⟨a2,a3⟩,⟨a4,a5⟩,⟨a6,a7⟩,⟨a8,a9⟩,⟨a10,a11⟩⟩:=s
 refine ae (aK f235) aD func235 fun g F hg hF=> ?_
 cbv
 repeat'(first|(refine br hg (gg _ _) rfl (fun R0 hR0=> ?_);cases R0<;>cbv)|(refine aZ hg (gg _ _) rfl (fun R0 hR0=> ?_);cases R0<;>cbv)|(split<;>rename_i hh<;>(try rw [hh])<;>(try simp only [dp hg]at hh)<;>cbv))
 all_goals exact bj hF (by simp only [CL];simp_all)
theorem fY(s:bu):PC0 232 [.agg (lc (bu.c s))] (.t (abl (C9 s))):=by
 obtain⟨a0,a1,a2,a3⟩:=s
 refine ae (aK f232) aD func232 fun g F hg hF=> ?_
 cbv
 repeat'(first|(refine br hg (bm _ _ _) rfl (fun R0 hR0=> ?_);cases R0<;>cbv)|(refine aZ hg (bm _ _ _) rfl (fun R0 hR0=> ?_);cases R0<;>cbv)|(split<;>rename_i hh<;>(try rw [hh])<;>(try simp only [dp hg]at hh)<;>cbv))
 all_goals exact bj hF (by simp only [C9];simp_all)
theorem gq(s:bu):PC0 236 [.agg (lc (bu.c s))] (.t (abl (C9 s))):=by
 obtain⟨a0,a1,a2,a3⟩:=s
 refine ae (aK f236) aD func236 fun g F hg hF=> ?_
 cbv
 repeat'(first|(refine br hg (bS _ _ _) rfl (fun R0 hR0=> ?_);cases R0<;>cbv)|(refine aZ hg (bS _ _ _) rfl (fun R0 hR0=> ?_);cases R0<;>cbv)|(split<;>rename_i hh<;>(try rw [hh])<;>(try simp only [dp hg]at hh)<;>cbv))
 all_goals exact bj hF (by simp only [C9];simp_all)
theorem ro(s:ar):PC0 148 [.agg (lc (ar.c s))] (.t (abl (zq s))):=by
 obtain⟨a0,a1,a2,a3,a4,a5,a6,a7,a8,a9,a10,⟨a11,a12⟩,⟨a13,a14⟩,⟨a15,a16⟩,⟨a17,a18⟩,⟨a19,a20⟩,⟨a21,a22⟩,⟨a23,a24⟩,a25,⟨⟨a26,a27⟩,⟨a28,a29⟩,⟨a30,a31⟩,⟨a32,a33⟩,⟨a34,a35⟩,⟨a36,a37⟩⟩,⟨⟨a38,a39⟩,⟨a40,a41⟩,⟨a42,a43⟩,⟨a44,a45⟩,⟨a46,a47⟩,⟨a48,a49⟩⟩,⟨a50,a51,a52,a53⟩,⟨a54,a55,a56,a57⟩,a58,a59⟩:=s
 refine ae (aK f148) aD func148 fun g F hg hF=> ?_
 cbv
 repeat'(first|(refine br hg (bm _ _ _) rfl (fun R0 hR0=> ?_);cases R0<;>cbv)|(refine aZ hg (bm _ _ _) rfl (fun R0 hR0=> ?_);cases R0<;>cbv)|(refine br hg (l6 _ _) rfl (fun R0 hR0=> ?_);cases R0<;>cbv)|(refine aZ hg (l6 _ _) rfl (fun R0 hR0=> ?_);cases R0<;>cbv)|(refine br hg (fU (⟨⟨a26,a27⟩,⟨a28,a29⟩,⟨a30,a31⟩,⟨a32,a33⟩,⟨a34,a35⟩,⟨a36,a37⟩⟩:bd)) rfl (fun R0 hR0=> ?_);cases R0<;>cbv)|(refine aZ hg (fU (⟨⟨a26,a27⟩,⟨a28,a29⟩,⟨a30,a31⟩,⟨a32,a33⟩,⟨a34,a35⟩,⟨a36,a37⟩⟩:bd)) rfl (fun R0 hR0=> ?_);cases R0<;>cbv)|(refine br hg (fU (⟨⟨a38,a39⟩,⟨a40,a41⟩,⟨a42,a43⟩,⟨a44,a45⟩,⟨a46,a47⟩,⟨a48,a49⟩⟩:bd)) rfl (fun R0 hR0=> ?_);cases R0<;>cbv)|(refine aZ hg (fU (⟨⟨a38,a39⟩,⟨a40,a41⟩,⟨a42,a43⟩,⟨a44,a45⟩,⟨a46,a47⟩,⟨a48,a49⟩⟩:bd)) rfl (fun R0 hR0=> ?_);cases R0<;>cbv)|(refine br hg (fY (⟨a50,a51,a52,a53⟩:bu)) rfl (fun R0 hR0=> ?_);cases R0<;>cbv)|(refine aZ hg (fY (⟨a50,a51,a52,a53⟩:bu)) rfl (fun R0 hR0=> ?_);cases R0<;>cbv)|(refine br hg (fY (⟨a54,a55,a56,a57⟩:bu)) rfl (fun R0 hR0=> ?_);cases R0<;>cbv)|(refine aZ hg (fY (⟨a54,a55,a56,a57⟩:bu)) rfl (fun R0 hR0=> ?_);cases R0<;>cbv)|(split<;>rename_i hh<;>(try rw [hh])<;>(try simp only [dp hg]at hh)<;>cbv))
 all_goals exact bj hF (by clear hF;simp only [zq,stN,stV,zqD,List.all_nil];simp_all)
theorem DS{a b z:Int}(h:a=b)(hz:z<a):z<b:=h▸hz
theorem FK{xs:List bO}{z M:Int}(hM:M=(xs.length:Int))(hz:M≤z)(h:∀(i:Nat)(v:bO),i<z.toNat→xs[i]? =some v→zOk v=true):xs.all zOk=true:=by
 rw [zqf]
 exact pr hM hz h
theorem FL{xs:List bO}{i:Nat}{v:bO}(h:xs[i]? =some v)(hv:zOk v=false):xs.all zOk=false:=by
 rw [List.all_eq_false]
 exact⟨v,zqd h,by rw [hv];decide⟩
theorem rU(s:ar):PC0 153 [.agg (lc (ar.c s))] (.t (abl (zq s))):=by
 obtain⟨W,hW⟩:=nmE (stV s)
 have hWl:(7:Int)=(W.length:Int):=by rw [hW];rfl
 obtain⟨V,hV⟩:=nmE (vw bO.c W)
 have kV:∀y∈V,y.length=2:=by rw [hV];exact bC (c:=bO.c) (k:=2) fun _=>rfl
 have pV:aj V=true:=by rw [hV];exact ag _ _
 have hVl:bg V=7:=by rw [aB,hV,af,←hWl]
 obtain⟨a0,a1,a2,a3,a4,a5,a6,a7,a8,a9,a10,⟨a11,a12⟩,⟨a13,a14⟩,⟨a15,a16⟩,⟨a17,a18⟩,⟨a19,a20⟩,⟨a21,a22⟩,⟨a23,a24⟩,a25,⟨⟨a26,a27⟩,⟨a28,a29⟩,⟨a30,a31⟩,⟨a32,a33⟩,⟨a34,a35⟩,⟨a36,a37⟩⟩,⟨⟨a38,a39⟩,⟨a40,a41⟩,⟨a42,a43⟩,⟨a44,a45⟩,⟨a46,a47⟩,⟨a48,a49⟩⟩,⟨a50,a51,a52,a53⟩,⟨a54,a55,a56,a57⟩,a58,a59⟩:=s
 have hVL:V=[[.J a11,.J a12],[.J a13,.J a14],[.J a15,.J a16],[.J a17,.J a18],[.J a19,.J a20],[.J a21,.J a22],[.J a23,.J a24]]:=by rw [hV,hW];rfl
 refine ae (aK f153) aD func153 fun g F hg hF=> ?_
 cbv
 repeat'(first|(refine br hg (bS _ _ _) rfl (fun R0 hR0=> ?_);cases R0<;>cbv)|(refine aZ hg (bS _ _ _) rfl (fun R0 hR0=> ?_);cases R0<;>cbv))
 all_goals(try exact bj hF (by clear hF;simp only [zq,stN];simp_all))
 have hN:stN ⟨a0,a1,a2,a3,a4,a5,a6,a7,a8,a9,a10,⟨a11,a12⟩,⟨a13,a14⟩,⟨a15,a16⟩,⟨a17,a18⟩,⟨a19,a20⟩,⟨a21,a22⟩,⟨a23,a24⟩,a25,⟨⟨a26,a27⟩,⟨a28,a29⟩,⟨a30,a31⟩,⟨a32,a33⟩,⟨a34,a35⟩,⟨a36,a37⟩⟩,⟨⟨a38,a39⟩,⟨a40,a41⟩,⟨a42,a43⟩,⟨a44,a45⟩,⟨a46,a47⟩,⟨a48,a49⟩⟩,⟨a50,a51,a52,a53⟩,⟨a54,a55,a56,a57⟩,a58,a59⟩=true:=by clear hF;simp only [stN];simp_all
 have hOk:zq ⟨a0,a1,a2,a3,a4,a5,a6,a7,a8,a9,a10,⟨a11,a12⟩,⟨a13,a14⟩,⟨a15,a16⟩,⟨a17,a18⟩,⟨a19,a20⟩,⟨a21,a22⟩,⟨a23,a24⟩,a25,⟨⟨a26,a27⟩,⟨a28,a29⟩,⟨a30,a31⟩,⟨a32,a33⟩,⟨a34,a35⟩,⟨a36,a37⟩⟩,⟨⟨a38,a39⟩,⟨a40,a41⟩,⟨a42,a43⟩,⟨a44,a45⟩,⟨a46,a47⟩,⟨a48,a49⟩⟩,⟨a50,a51,a52,a53⟩,⟨a54,a55,a56,a57⟩,a58,a59⟩=(W.all zOk&&(CL ⟨⟨a26,a27⟩,⟨a28,a29⟩,⟨a30,a31⟩,⟨a32,a33⟩,⟨a34,a35⟩,⟨a36,a37⟩⟩&&(CL ⟨⟨a38,a39⟩,⟨a40,a41⟩,⟨a42,a43⟩,⟨a44,a45⟩,⟨a46,a47⟩,⟨a48,a49⟩⟩&&(C9 ⟨a50,a51,a52,a53⟩&&C9 ⟨a54,a55,a56,a57⟩)))):=by rw [zq,hN,hW];rfl
 rw [hOk]at hF
 clear hN hOk
 rw [←hVL]
 refine bU hg aD (by kernel_rfl) (fun z:Int=>[(1,.p 0),(87,.o 1),(88,.i (g .ln V)),(89,.i z)]) (fun _=>[.bx 87 60 (lc (ar.c ⟨a0,a1,a2,a3,a4,a5,a6,a7,a8,a9,a10,⟨a11,a12⟩,⟨a13,a14⟩,⟨a15,a16⟩,⟨a17,a18⟩,⟨a19,a20⟩,⟨a21,a22⟩,⟨a23,a24⟩,a25,⟨⟨a26,a27⟩,⟨a28,a29⟩,⟨a30,a31⟩,⟨a32,a33⟩,⟨a34,a35⟩,⟨a36,a37⟩⟩,⟨⟨a38,a39⟩,⟨a40,a41⟩,⟨a42,a43⟩,⟨a44,a45⟩,⟨a46,a47⟩,⟨a48,a49⟩⟩,⟨a50,a51,a52,a53⟩,⟨a54,a55,a56,a57⟩,a58,a59⟩)),.rw ⟨81,2,V⟩]) (fun z=>0≤z∧z≤7∧∀(i:Nat)(v:bO),i<z.toNat→W[i]? =some v→zOk v=true) (fun z=>(7:Int).toNat-z.toNat)
  0 [some 0,some 1] ⟨Int.le_refl 0,by omega,fun i v hi=>by simp at hi⟩ (wkS [0,1] (by decide) ⟨⟨_,rfl,rfl,rfl⟩,⟨_,rfl,rfl,pV⟩,trivial⟩ ⟨rfl,rfl,rfl,rfl,trivial⟩) (fun z B hs hB=> ?_)
 obtain⟨h0,h1,h2⟩:=hs
 cbv
 cases hc:g .q .lss z (g .ln V)
 ·rw [bn hg,bD hg,hVl,zqo]at hc
  have hall:=FK hWl (by omega) h2
  cbv
  repeat'(first|(refine br hg (gj (⟨⟨a26,a27⟩,⟨a28,a29⟩,⟨a30,a31⟩,⟨a32,a33⟩,⟨a34,a35⟩,⟨a36,a37⟩⟩:bd)) rfl (fun R0 hR0=> ?_);cases R0<;>cbv)|(refine aZ hg (gj (⟨⟨a26,a27⟩,⟨a28,a29⟩,⟨a30,a31⟩,⟨a32,a33⟩,⟨a34,a35⟩,⟨a36,a37⟩⟩:bd)) rfl (fun R0 hR0=> ?_);cases R0<;>cbv)|(refine br hg (gj (⟨⟨a38,a39⟩,⟨a40,a41⟩,⟨a42,a43⟩,⟨a44,a45⟩,⟨a46,a47⟩,⟨a48,a49⟩⟩:bd)) rfl (fun R0 hR0=> ?_);cases R0<;>cbv)|(refine aZ hg (gj (⟨⟨a38,a39⟩,⟨a40,a41⟩,⟨a42,a43⟩,⟨a44,a45⟩,⟨a46,a47⟩,⟨a48,a49⟩⟩:bd)) rfl (fun R0 hR0=> ?_);cases R0<;>cbv)|(refine br hg (gq (⟨a50,a51,a52,a53⟩:bu)) rfl (fun R0 hR0=> ?_);cases R0<;>cbv)|(refine aZ hg (gq (⟨a50,a51,a52,a53⟩:bu)) rfl (fun R0 hR0=> ?_);cases R0<;>cbv)|(refine br hg (gq (⟨a54,a55,a56,a57⟩:bu)) rfl (fun R0 hR0=> ?_);cases R0<;>cbv)|(refine aZ hg (gq (⟨a54,a55,a56,a57⟩:bu)) rfl (fun R0 hR0=> ?_);cases R0<;>cbv))
  all_goals exact bj hF (by clear hF;simp_all)
 ·rw [bn hg,bD hg,hVl,zqp]at hc
  cbv
  obtain⟨x,hx⟩:=qT (xs:=W) h0 (DS hWl hc)
  have hyy:V[z.toNat]? =some (lc (bO.c x)):=by rw [hV];exact bh hx
  obtain⟨j,hj⟩:=nmE z.toNat
  obtain⟨x0,x1⟩:=x
  refine GO hg h0 hj (wE h0 (by rw [hVl];exact hc) hj) ?_
  cbv
  rw [←hj]at hyy
  refine⟨_,hyy,?_⟩
  cbv
  refine br hg (uk x0 x1) rfl (fun R hR=> ?_)
  cases R
  ·cbv
   exact bj hF (by rw [FL hx hR.symm];rfl)
  ·cbv
   have e1:g .w .add .i64 z 1=z+1:=by rw [aM hg,aC _ (by omega)]
   rw [e1]
   refine gX hB (z+1) [some 0,some 1] (wkS [0,1] (by decide) ⟨⟨_,rfl,rfl,rfl⟩,⟨_,rfl,rfl,pV⟩,trivial⟩ ⟨rfl,rfl,rfl,rfl,trivial⟩) ⟨by omega,by omega,fun i v hi hv=> ?_⟩ (by omega)
   by_cases hi2:i<z.toNat
   ·exact h2 i v hi2 hv
   ·rw [show i=z.toNat by omega,hx]at hv
    cases hv
    exact hR.symm
def tx(r:aJ):Bool:=rng r.room (-1) 1048576&&(rng r.wide 0 1048576&&rng r.high 0 1048576)
def Du(rs:List aJ):Bool:=rng (rs.length:Int) 1 6&&rs.all tx
theorem EI{xs:List aJ}{z M:Int}(hM:M=(xs.length:Int))(hz:M≤z)(h:∀(i:Nat)(v:aJ),i<z.toNat→xs[i]? =some v→tx v=true):xs.all tx=true:=by
 rw [zqf]
 exact pr hM hz h
theorem EJ{xs:List aJ}{i:Nat}{v:aJ}(h:xs[i]? =some v)(hv:tx v=false):xs.all tx=false:=by
 rw [List.all_eq_false]
 exact⟨v,zqd h,by rw [hv];decide⟩
def isN(ns:List ak)(n:Int):Bool:=rng n 1 (ns.length:Int)
def upN(ns:List ak)(n:Int):Int:=match ns[(n-1).toNat]? with|some x=>x.up|none=>0
def sT(ns:List ak):Nat→Int→Int→Int
 |0,k,n=>if n=0 then k else 0
 |f+1,k,n=>if n=0 then k else if isN ns n=true then sT ns f (k+1) (upN ns n)else 0
def uF(ns:List ak)(n:Int):Int:=sT ns ns.length 0 n
theorem lN(ns:List ak)(f:Nat)(k:Int):sT ns f k 0=k:=by cases f<;>simp [sT]
theorem uE(ns:List ak)(f:Nat)(k n:Int)(h0:n≠0)(h:isN ns n=false):sT ns f k n=0:=by cases f<;>simp [sT,h0,h]
theorem jJ(ns:List ak){f:Nat}{k n:Int}(h0:n≠0)(h:isN ns n=true):sT ns (f+1) k n=sT ns f (k+1) (upN ns n):=by simp [sT,h0,h]
theorem wR(ns:List ak){k n:Int}(h0:n≠0):sT ns 0 k n=0:=by simp [sT,h0]
theorem bF{ns:List ak}{n:Int}(h:isN ns n=true):1≤n∧n≤(ns.length:Int)∧∃x,ns[(n-1).toNat]? =some x:=by
 simp only [isN,rng,zqs,zqp]at h
 exact⟨h.1,h.2,ns[(n-1).toNat]'(by omega),zqc _⟩
theorem sj{ns:List ak}{n:Int}{x:ak}(h:ns[(n-1).toNat]? =some x):upN ns n=x.up:=by unfold upN;rw [h]
theorem xZ{M d:Int}{L:Nat}(hM:M=(L:Int))(h0:0≤d)(h1:d<M):L-d.toNat=(L-(d+1).toNat)+1:=by omega
theorem v7{M d:Int}{L:Nat}(hM:M=(L:Int))(h:d=M):L-d.toNat=0:=by omega
def cnt(xs:List Int)(n:Int):Int:=(xs.map fun k=>if k=n then 1 else 0).sum
theorem gx(V:LLA)(n:Int):PC0 77 [.agg [.view V],ai n] (.t (abl (rng n 1 (bg V)))):=by
 refine ae (aK f77) aD func77 fun g F hg hF=> ?_
 cbv
 repeat'(first|(refine br hg (bm _ _ _) rfl (fun R0 hR0=> ?_);cases R0<;>cbv)|(refine aZ hg (bm _ _ _) rfl (fun R0 hR0=> ?_);cases R0<;>cbv))
 all_goals exact bj hF (by rw [hR0,bD hg])
theorem jy(V:LLA)(n:Int):PC0 80 [.agg [.view V],ai n] (.t (abl (rng n 1 (bg V)))):=by
 refine ae (aK f80) aD func80 fun g F hg hF=> ?_
 cbv
 repeat'(first|(refine br hg (bS _ _ _) rfl (fun R0 hR0=> ?_);cases R0<;>cbv)|(refine aZ hg (bS _ _ _) rfl (fun R0 hR0=> ?_);cases R0<;>cbv))
 all_goals exact bj hF (by rw [hR0,bD hg])
theorem dc(V:LLA)(n:Int)(h1:1≤n)(h2:n≤1048576){a0:Int}{Va1:LLA}{a2:Int}{a3:Int}{a4:Int}{a5:Int}{a6:Int}{a7:Int}{a8:Bool}{a9:Bool}{a10:Int}{a11:Int}{a12:Int}{a13:Int}{a14:Int}{a15:Int}{a16:Int}{a17:Int}{a18:Int}{a19:Int}{a20:Int}{a21:Int}{a22:Int}{a23:Int}{a24:Int}{a25:Int}{a26:Int}{a27:Int}{a28:Int}{a29:Int}{a30:Int}{a31:Int}{a32:Int}{a33:Int}{a34:Int}{a35:Int}{a36:Int}{a37:Int}{a38:Int}{a39:Int}{a40:Int}{a41:Int}{a42:Int}{a43:Int}{a44:Int}{a45:Int}{a46:Int}{a47:Int}{a48:Int}{a49:Int}{a50:Int}{a51:Int}{a52:Int}{a53:Int}{a54:Int}{a55:Int}{a56:Int}{a57:Int}{a58:Int}{a59:Int}{a60:Int}{a61:Int}{a62:Bool}{Va63:LLA}(hy:V[(n-1).toNat]? =some [.J a0,.view Va1,.J a2,.J a3,.J a4,.J a5,.J a6,.J a7,.B a8,.B a9,.J a10,.J a11,.J a12,.J a13,.J a14,.J a15,.J a16,.J a17,.J a18,.J a19,.J a20,.J a21,.J a22,.J a23,.J a24,.J a25,.J a26,.J a27,.J a28,.J a29,.J a30,.J a31,.J a32,.J a33,.J a34,.J a35,.J a36,.J a37,.J a38,.J a39,.J a40,.J a41,.J a42,.J a43,.J a44,.J a45,.J a46,.J a47,.J a48,.J a49,.J a50,.J a51,.J a52,.J a53,.J a54,.J a55,.J a56,.J a57,.J a58,.J a59,.J a60,.J a61,.B a62,.view Va63]):PC0 107 [.agg [.view V],ai n] (.t (.agg [.J a0,.view Va1,.J a2,.J a3,.J a4,.J a5,.J a6,.J a7,.B a8,.B a9,.J a10,.J a11,.J a12,.J a13,.J a14,.J a15,.J a16,.J a17,.J a18,.J a19,.J a20,.J a21,.J a22,.J a23,.J a24,.J a25,.J a26,.J a27,.J a28,.J a29,.J a30,.J a31,.J a32,.J a33,.J a34,.J a35,.J a36,.J a37,.J a38,.J a39,.J a40,.J a41,.J a42,.J a43,.J a44,.J a45,.J a46,.J a47,.J a48,.J a49,.J a50,.J a51,.J a52,.J a53,.J a54,.J a55,.J a56,.J a57,.J a58,.J a59,.J a60,.J a61,.B a62,.view Va63])):=by
 obtain⟨m,hm⟩:=nmE (n-1)
 rw [←hm]at hy
 refine ae (aK f107) aD func107 fun g F hg hF=> ?_
 cbv
 have e1:g .w .sub .i64 n 1=m:=by rw [dd hg,aC _ (by omega),hm]
 rw [e1]
 refine goX hg _ (by omega) hy rfl ?_
 cbv
 exact dY hF rfl ⟨rfl,rfl⟩
theorem fM(V:LLA)(n:Int)(h1:1≤n)(h2:n≤1048576){a0:Int}{Va1:LLA}{a2:Int}{a3:Int}{a4:Int}{a5:Int}{a6:Int}{a7:Int}{a8:Bool}{a9:Bool}{a10:Int}{a11:Int}{a12:Int}{a13:Int}{a14:Int}{a15:Int}{a16:Int}{a17:Int}{a18:Int}{a19:Int}{a20:Int}{a21:Int}{a22:Int}{a23:Int}{a24:Int}{a25:Int}{a26:Int}{a27:Int}{a28:Int}{a29:Int}{a30:Int}{a31:Int}{a32:Int}{a33:Int}{a34:Int}{a35:Int}{a36:Int}{a37:Int}{a38:Int}{a39:Int}{a40:Int}{a41:Int}{a42:Int}{a43:Int}{a44:Int}{a45:Int}{a46:Int}{a47:Int}{a48:Int}{a49:Int}{a50:Int}{a51:Int}{a52:Int}{a53:Int}{a54:Int}{a55:Int}{a56:Int}{a57:Int}{a58:Int}{a59:Int}{a60:Int}{a61:Int}{a62:Bool}{Va63:LLA}(hy:V[(n-1).toNat]? =some [.J a0,.view Va1,.J a2,.J a3,.J a4,.J a5,.J a6,.J a7,.B a8,.B a9,.J a10,.J a11,.J a12,.J a13,.J a14,.J a15,.J a16,.J a17,.J a18,.J a19,.J a20,.J a21,.J a22,.J a23,.J a24,.J a25,.J a26,.J a27,.J a28,.J a29,.J a30,.J a31,.J a32,.J a33,.J a34,.J a35,.J a36,.J a37,.J a38,.J a39,.J a40,.J a41,.J a42,.J a43,.J a44,.J a45,.J a46,.J a47,.J a48,.J a49,.J a50,.J a51,.J a52,.J a53,.J a54,.J a55,.J a56,.J a57,.J a58,.J a59,.J a60,.J a61,.B a62,.view Va63]):PC0 121 [.agg [.view V],ai n] (.t (.agg [.J a0,.view Va1,.J a2,.J a3,.J a4,.J a5,.J a6,.J a7,.B a8,.B a9,.J a10,.J a11,.J a12,.J a13,.J a14,.J a15,.J a16,.J a17,.J a18,.J a19,.J a20,.J a21,.J a22,.J a23,.J a24,.J a25,.J a26,.J a27,.J a28,.J a29,.J a30,.J a31,.J a32,.J a33,.J a34,.J a35,.J a36,.J a37,.J a38,.J a39,.J a40,.J a41,.J a42,.J a43,.J a44,.J a45,.J a46,.J a47,.J a48,.J a49,.J a50,.J a51,.J a52,.J a53,.J a54,.J a55,.J a56,.J a57,.J a58,.J a59,.J a60,.J a61,.B a62,.view Va63])):=by
 obtain⟨m,hm⟩:=nmE (n-1)
 rw [←hm]at hy
 refine ae (aK f121) aD func121 fun g F hg hF=> ?_
 cbv
 have e1:g .w .sub .i64 n 1=m:=by rw [dd hg,aC _ (by omega),hm]
 rw [e1]
 refine goX hg _ (by omega) hy rfl ?_
 cbv
 exact dY hF rfl ⟨rfl,rfl⟩
theorem rl(rs:List aJ)(hl:rs.length≤1048576):PC0 151 [.agg [.view (vw aJ.c rs)]] (.t (abl (Du rs))):=by
 obtain⟨V,hV⟩:=nmE (vw aJ.c rs)
 have hVl:V.length=rs.length:=by rw [hV,af]
 have iV:bR V=true:=by rw [hV];exact aG _ _
 have kV:∀y∈V,y.length=3:=by rw [hV];exact bC (c:=aJ.c) (k:=3) fun _=>rfl
 have dV:∀y∈V,y.all dat=true:=by rw [hV];exact az
 have hVx:bg V=(rs.length:Int):=by rw [aB];omega
 have hV0:0≤bg V:=by omega
 have hV1:bg V≤1048576:=by omega
 have hta:Du rs=(rng (bg V) 1 6&&rs.all tx):=by rw [hVx];rfl
 rw [←hV,hta]
 refine ae (aK f151) aD func151 fun g F hg hF=> ?_
 cbv
 refine bU hg aD (by kernel_rfl) (fun z:Int=>[(1,.p 0),(3,.i z)]) (fun _=>[.bx 146 1 [.view V]]) (fun z=>0≤z∧z≤bg V∧∀(i:Nat)(v:aJ),i<z.toNat→rs[i]? =some v→tx v=true) (fun z=>(bg V).toNat-z.toNat)
  0 [some 0] ⟨Int.le_refl 0,hV0,fun i v hi=>by simp at hi⟩ (wkS [0] (by decide) ⟨⟨_,rfl,rfl,rfl⟩,trivial⟩ ⟨rfl,rfl,trivial⟩) (fun z B hs hB=> ?_)
 obtain⟨h0,h1,h2⟩:=hs
 cbv
 cases hc:g .q .lss z (g .ln V)
 ·rw [bn hg,bD hg,zqo]at hc
  have hall:=EI hVx (by omega) h2
  cbv
  repeat'(first|(refine br hg (bm _ _ _) rfl (fun R0 hR0=> ?_);cases R0<;>cbv)|(refine aZ hg (bm _ _ _) rfl (fun R0 hR0=> ?_);cases R0<;>cbv))
  all_goals exact bj hF (by rw [hR0,bD hg,hall,Bool.and_true])
 ·rw [bn hg,bD hg,zqp]at hc
  cbv
  obtain⟨x,hx⟩:=qT (xs:=rs) h0 (gJ hVx hc)
  have hyy:V[z.toNat]? =some (lc (aJ.c x)):=by rw [hV];exact bh hx
  obtain⟨x0,x1,x2⟩:=x
  refine goX hg _ h0 hyy rfl ?_
  cbv
  have hfalse:tx ⟨x0,x1,x2⟩=false→(rng (bg V) 1 6&&rs.all tx)=false:=fun h=>by rw [EJ hx h,Bool.and_false]
  have e1:g .w .add .i64 z 1=z+1:=by rw [aM hg,aC _ (by omega)]
  repeat'(first|(refine br hg (bm _ _ _) rfl (fun R0 hR0=> ?_);cases R0<;>cbv)|(refine aZ hg (bm _ _ _) rfl (fun R0 hR0=> ?_);cases R0<;>cbv))
  all_goals first
   |exact bj hF (hfalse (by simp only [tx];clear hF;simp_all)).symm
   |skip
  have hrx:tx ⟨x0,x1,x2⟩=true:=by simp only [tx];clear hF hB;simp_all
  rw [e1]
  refine gX hB (z+1) [some 0] (wkS [0] (by decide) ⟨⟨_,rfl,rfl,rfl⟩,trivial⟩ ⟨rfl,rfl,trivial⟩) ⟨by omega,by omega,fun i v hi hv=> ?_⟩ (by omega)
  by_cases hi2:i<z.toNat
  ·exact h2 i v hi2 hv
  ·rw [show i=z.toNat by omega,hx]at hv
   cases hv
   exact hrx
theorem rT(rs:List aJ)(hl:rs.length≤1048576):PC0 156 [.agg [.view (vw aJ.c rs)]] (.t (abl (Du rs))):=by
 obtain⟨V,hV⟩:=nmE (vw aJ.c rs)
 have hVl:V.length=rs.length:=by rw [hV,af]
 have iV:bR V=true:=by rw [hV];exact aG _ _
 have kV:∀y∈V,y.length=3:=by rw [hV];exact bC (c:=aJ.c) (k:=3) fun _=>rfl
 have dV:∀y∈V,y.all dat=true:=by rw [hV];exact az
 have hVx:bg V=(rs.length:Int):=by rw [aB];omega
 have hV0:0≤bg V:=by omega
 have hV1:bg V≤1048576:=by omega
 have hta:Du rs=(rng (bg V) 1 6&&rs.all tx):=by rw [hVx];rfl
 rw [←hV,hta]
 refine ae (aK f156) aD func156 fun g F hg hF=> ?_
 cbv
 have cr:=bS (g .ln V) 1 6
 rw [bD hg]at cr
 obtain⟨Q,hQ⟩:=nmE (rng (bg V) 1 6)
 rw [←hQ]at cr hF
 rw [bD hg]
 (first|refine ad hg cr ?_|refine aa hg cr ?_)
 cases Q
 case false=>
  cbv
  exact bj hF rfl
 cbv
 refine bU hg aD (by kernel_rfl) (fun z:Int=>[(1,.p 0),(11,.v V),(12,.i (g .ln V)),(13,.i z)]) (fun _=>[.bx 146 1 [.view V]]) (fun z=>0≤z∧z≤bg V∧∀(i:Nat)(v:aJ),i<z.toNat→rs[i]? =some v→tx v=true) (fun z=>(bg V).toNat-z.toNat)
  0 [some 0] ⟨Int.le_refl 0,hV0,fun i v hi=>by simp at hi⟩ (wkS [0] (by decide) ⟨⟨_,rfl,rfl,rfl⟩,trivial⟩ ⟨rfl,rfl,rfl,rfl,trivial⟩) (fun z B hs hB=> ?_)
 obtain⟨h0,h1,h2⟩:=hs
 cbv
 cases hc:g .q .lss z (g .ln V)
 ·rw [bn hg,bD hg,zqo]at hc
  have hall:=EI hVx (by omega) h2
  cbv
  exact bj hF (by rw [hall];rfl)
 ·rw [bn hg,bD hg,zqp]at hc
  cbv
  obtain⟨x,hx⟩:=qT (xs:=rs) h0 (gJ hVx hc)
  have hyy:V[z.toNat]? =some (lc (aJ.c x)):=by rw [hV];exact bh hx
  obtain⟨x0,x1,x2⟩:=x
  refine goX hg _ h0 hyy rfl ?_
  cbv
  have hfalse:tx ⟨x0,x1,x2⟩=false→(true&&rs.all tx)=false:=fun h=>by rw [EJ hx h,Bool.and_false]
  have e1:g .w .add .i64 z 1=z+1:=by rw [aM hg,aC _ (by omega)]
  repeat'(first|(refine br hg (bS _ _ _) rfl (fun R0 hR0=> ?_);cases R0<;>cbv)|(refine aZ hg (bS _ _ _) rfl (fun R0 hR0=> ?_);cases R0<;>cbv))
  all_goals first
   |exact bj hF (hfalse (by simp only [tx];clear hF;simp_all)).symm
   |skip
  have hrx:tx ⟨x0,x1,x2⟩=true:=by simp only [tx];clear hF hB;simp_all
  rw [e1]
  refine gX hB (z+1) [some 0] (wkS [0] (by decide) ⟨⟨_,rfl,rfl,rfl⟩,trivial⟩ ⟨rfl,rfl,rfl,rfl,trivial⟩) ⟨by omega,by omega,fun i v hi hv=> ?_⟩ (by omega)
  by_cases hi2:i<z.toNat
  ·exact h2 i v hi2 hv
  ·rw [show i=z.toNat by omega,hx]at hv
   cases hv
   exact hrx
theorem mP(xs:List Int)(n:Int)(hl:xs.length≤1048576):PC0 63 [.c (.view (vw ao xs)),ai n] (.i (cnt xs n)):=by
 obtain⟨V,hV⟩:=nmE (vw ao xs)
 have hVl:V.length=xs.length:=by rw [hV,af]
 have iV:bR V=true:=by rw [hV];exact aG _ _
 have kV:∀y∈V,y.length=1:=by rw [hV];exact bC (c:=ao) (k:=1) fun _=>rfl
 have dV:∀y∈V,y.all dat=true:=by rw [hV];exact az
 have hVx:bg V=(xs.length:Int):=by rw [aB];omega
 have hV0:0≤bg V:=by omega
 have hV1:bg V≤1048576:=by omega
 have hall:∀z:Int,bg V≤z→wy (fun k=>if k=n then 1 else 0) xs z.toNat=cnt xs n:=fun z hz=>ly _ (by omega)
 rw [←hV]
 refine ae (aK f63) aD func63 fun g F hg hF=> ?_
 cbv
 refine bU hg aD (by kernel_rfl) (fun s:Int×Int=>[(0,.v V),(1,.i n),(5,.i s.2),(6,.i s.1)]) (fun _=>[]) (fun s=>0≤s.1∧s.1≤bg V∧0≤s.2∧s.2≤s.1∧s.2=wy (fun k=>if k=n then 1 else 0) xs s.1.toNat) (fun s=>(bg V).toNat-s.1.toNat)
  (0,0) [] ⟨Int.le_refl 0,hV0,Int.le_refl 0,Int.le_refl 0,(jc _ _).symm⟩ (wk0 ⟨rfl,rfl,rfl,rfl,trivial⟩) (fun s B hs hB=> ?_)
 obtain⟨z,d⟩:=s
 obtain⟨h0,h1,h2,h3,h4⟩:=hs
 simp only at h0 h1 h2 h3 h4
 cbv
 cases hc:g .q .lss z (g .ln V)
 ·rw [bn hg,bD hg,zqo]at hc
  cbv
  exact ba hF (by rw [h4,hall z (by omega)])
 ·rw [bn hg,bD hg,zqp]at hc
  cbv
  obtain⟨x,hx⟩:=qT (xs:=xs) h0 (gJ hVx hc)
  have hyy:V[z.toNat]? =some (lc (ao x)):=by rw [hV];exact bh hx
  have hs:=jd (fun k:Int=>if k=n then(1:Int)else 0) hx
  refine goX hg _ h0 hyy rfl ?_
  cbv
  have e1:g .w .add .i64 z 1=z+1:=by rw [aM hg,aC _ (by omega)]
  cases he:g .q .eql x n
  ·have he':x≠n:=by rw [bv hg]at he;simpa using he
   simp only [if_neg he']at hs
   cbv
   rw [e1]
   exact gX hB (z+1,d) [] (wk0 ⟨rfl,rfl,rfl,rfl,trivial⟩) ⟨by simp only;omega,by simp only;omega,h2,by simp only;omega,by simp only;rw [show(z+1).toNat=z.toNat+1 by omega,hs];omega⟩ (by show(bg V).toNat-(z+1).toNat<(bg V).toNat-z.toNat;omega)
  ·have he':x=n:=by rw [bv hg]at he;simpa using he
   simp only [if_pos he']at hs
   cbv
   have e2:g .w .add .i64 d 1=d+1:=by rw [aM hg,aC _ (by omega)]
   rw [e1,e2]
   exact gX hB (z+1,d+1) [] (wk0 ⟨rfl,rfl,rfl,rfl,trivial⟩) ⟨by simp only;omega,by simp only;omega,by simp only;omega,by simp only;omega,by simp only;rw [show(z+1).toNat=z.toNat+1 by omega,hs];omega⟩ (by show(bg V).toNat-(z+1).toNat<(bg V).toNat-z.toNat;omega)
theorem r5(ns:List ak)(n0:Int)(hl:ns.length≤1048576):PC0 155 [.agg [.view (vwA ak.ac ns)],ai n0] (.i (uF ns n0)):=by
 obtain⟨V,hV⟩:=nmE (vwA ak.ac ns)
 have hVx:bg V=(ns.length:Int):=by rw [aB,hV,bE]
 have hV0:0≤bg V:=by omega
 have hV1:bg V≤1048576:=by omega
 have hisN:∀n,isN ns n=rng n 1 (bg V):=fun n=>by rw [hVx];rfl
 have hfu:∀d:Int,0≤d→d<bg V→ns.length-d.toNat=(ns.length-(d+1).toNat)+1:=fun d h0 h1=>xZ hVx h0 h1
 have hfe:∀d:Int,d=bg V→ns.length-d.toNat=0:=fun d h=>v7 hVx h
 have hst:sT ns (ns.length-(0:Int).toNat) 0 n0=uF ns n0:=rfl
 obtain⟨R,hR⟩:=nmE (uF ns n0)
 rw [←hR]at hst⊢
 rw [←hV]
 refine ae (aK f155) aD func155 fun g F hg hF=> ?_
 cbv
 refine bU hg aD (by kernel_rfl) (fun s:Int×Int=>[(1,.i s.1),(2,.p 0),(5,.i s.2)]) (fun _=>[.bx 32 1 [.view V]]) (fun s=>0≤s.2∧s.2≤bg V∧sT ns (ns.length-s.2.toNat) s.2 s.1=R) (fun s=>(bg V).toNat-s.2.toNat)
  (n0,0) [some 0] ⟨Int.le_refl 0,hV0,hst⟩ (wkS [0] (by decide) ⟨⟨_,rfl,rfl,rfl⟩,trivial⟩ ⟨rfl,rfl,rfl,trivial⟩) (fun s B hs hB=> ?_)
 obtain⟨n,d⟩:=s
 obtain⟨h0,h1,h2⟩:=hs
 simp only at h0 h1 h2
 cbv
 cases hn:g .q .neq n 0
 ·have hn':n=0:=by rw [bk hg]at hn;simpa using hn
  cbv
  exact ba hF (by rw [←h2,hn',lN])
 have hn':n≠0:=by rw [bk hg]at hn;simpa using hn
 cbv
 have e1:g .w .add .i64 d 1=d+1:=by rw [aM hg,aC _ (by omega)]
 obtain⟨D,hD⟩:=nmE (d+1)
 rw [←hD]at e1
 rw [e1]
 have ci:=jy V n
 rw [←hisN n]at ci
 cases hi:isN ns n
 ·rw [hi]at ci
  refine ad hg ci ?_
  cbv
  exact ba hF (by rw [←h2,uE ns _ _ _ hn' hi])
 rw [hi]at ci
 refine ad hg ci ?_
 cbv
 cases hd:g .q .gtr D (g .ln V)
 case true=>
  rw [cj hg,bD hg,zqp]at hd
  cbv
  exact ba hF (by rw [←h2,hfe d (by omega),wR ns hn'])
 rw [cj hg,bD hg,zqo]at hd
 have hlt:d<bg V:=by omega
 have hf2:=hfu d h0 hlt
 obtain⟨i1,i2,x,hx⟩:=bF hi
 have hi2:n≤1048576:=Int.le_trans (hVx▸i2) hV1
 have hyy:V[(n-1).toNat]? =some x.ac:=by rw [hV];exact gV hx
 have hup:=sj hx
 have hst2:sT ns (ns.length-D.toNat) D x.up=R:=by rw [←h2,hf2,jJ ns hn' hi,hup,hD]
 obtain⟨a0,a1,⟨a2,a3,a4,a5,a6,a7,a8,a9,a10,a11,a12,⟨a13,a14⟩,⟨a15,a16⟩,⟨a17,a18⟩,⟨a19,a20⟩,⟨a21,a22⟩,⟨a23,a24⟩,⟨a25,a26⟩,a27,⟨⟨a28,a29⟩,⟨a30,a31⟩,⟨a32,a33⟩,⟨a34,a35⟩,⟨a36,a37⟩,⟨a38,a39⟩⟩,⟨⟨a40,a41⟩,⟨a42,a43⟩,⟨a44,a45⟩,⟨a46,a47⟩,⟨a48,a49⟩,⟨a50,a51⟩⟩,⟨a52,a53,a54,a55⟩,⟨a56,a57,a58,a59⟩,a60,a61⟩,a62,⟨a63⟩⟩:=x
 replace hyy:V[(n-1).toNat]? =some [.J a0,.view (vw ao a1),.J a2,.J a3,.J a4,.J a5,.J a6,.J a7,.B a8,.B a9,.J a10,.J a11,.J a12,.J a13,.J a14,.J a15,.J a16,.J a17,.J a18,.J a19,.J a20,.J a21,.J a22,.J a23,.J a24,.J a25,.J a26,.J a27,.J a28,.J a29,.J a30,.J a31,.J a32,.J a33,.J a34,.J a35,.J a36,.J a37,.J a38,.J a39,.J a40,.J a41,.J a42,.J a43,.J a44,.J a45,.J a46,.J a47,.J a48,.J a49,.J a50,.J a51,.J a52,.J a53,.J a54,.J a55,.J a56,.J a57,.J a58,.J a59,.J a60,.J a61,.B a62,.view (vw aJ.c a63)]:=hyy
 obtain⟨Va1,hVa1⟩:=nmE (vw ao a1)
 obtain⟨Va63,hVa63⟩:=nmE (vw aJ.c a63)
 rw [←hVa1,←hVa63]at hyy
 cbv
 refine ad hg (fM V n i1 hi2 hyy) ?_
 cbv
 exact gX hB (a0,D) [some 0] (wkS [0] (by decide) ⟨⟨_,rfl,rfl,rfl⟩,trivial⟩ ⟨rfl,rfl,rfl,trivial⟩) ⟨by simp only;omega,by simp only;omega,hst2⟩ (by show(bg V).toNat-D.toNat<(bg V).toNat-d.toNat;omega)
theorem rz(ns:List ak)(n0:Int)(hl:ns.length≤1048576):PC0 150 [.agg [.view (vwA ak.ac ns)],ai n0] (.i (uF ns n0)):=by
 obtain⟨V,hV⟩:=nmE (vwA ak.ac ns)
 have hVx:bg V=(ns.length:Int):=by rw [aB,hV,bE]
 have hV0:0≤bg V:=by omega
 have hV1:bg V≤1048576:=by omega
 have hisN:∀n,isN ns n=rng n 1 (bg V):=fun n=>by rw [hVx];rfl
 have hfu:∀d:Int,0≤d→d<bg V→ns.length-d.toNat=(ns.length-(d+1).toNat)+1:=fun d h0 h1=>xZ hVx h0 h1
 have hfe:∀d:Int,d=bg V→ns.length-d.toNat=0:=fun d h=>v7 hVx h
 have hst:sT ns (ns.length-(0:Int).toNat) 0 n0=uF ns n0:=rfl
 obtain⟨R,hR⟩:=nmE (uF ns n0)
 rw [←hR]at hst⊢
 rw [←hV]
 refine ae (aK f150) aD func150 fun g F hg hF=> ?_
 cbv
 refine bU hg aD (by kernel_rfl) (fun s:Int×Int=>[(1,.i s.1),(2,.p 0),(5,.i s.2)]) (fun _=>[.bx 32 1 [.view V]]) (fun s=>0≤s.2∧s.2≤bg V+1∧(s.2≤bg V→sT ns (ns.length-s.2.toNat) s.2 s.1=R)∧(s.2=bg V+1→R=0)) (fun s=>(bg V+1).toNat-s.2.toNat)
  (n0,0) [some 0] ⟨Int.le_refl 0,by simp only;omega,fun _=>hst,fun h=>by simp only at h;omega⟩ (wkS [0] (by decide) ⟨⟨_,rfl,rfl,rfl⟩,trivial⟩ ⟨rfl,rfl,rfl,trivial⟩) (fun s B hs hB=> ?_)
 obtain⟨n,d⟩:=s
 obtain⟨h0,h1,h2,h2'⟩:=hs
 simp only at h0 h1 h2 h2'
 cbv
 cases hd:g .q .leq d (g .ln V)
 case false=>
  rw [ip hg,bD hg,zqo]at hd
  cbv
  exact ba hF (h2' (by omega)).symm
 rw [ip hg,bD hg,zqp]at hd
 replace h2:=h2 hd
 clear h2'
 cbv
 cases hn:g .q .eql n 0
 case true=>
  have hn':n=0:=by rw [bv hg]at hn;simpa using hn
  cbv
  exact ba hF (by rw [←h2,hn',lN])
 have hn':n≠0:=by rw [bv hg]at hn;simpa using hn
 cbv
 have e1:g .w .add .i64 d 1=d+1:=by rw [aM hg,aC _ (by omega)]
 have ci:=gx V n
 rw [←hisN n]at ci
 cases hi:isN ns n
 ·rw [hi]at ci
  refine ad hg ci ?_
  cbv
  exact ba hF (by rw [←h2,uE ns _ _ _ hn' hi])
 rw [hi]at ci
 refine ad hg ci ?_
 obtain⟨i1,i2,x,hx⟩:=bF hi
 have hi2:n≤1048576:=Int.le_trans (hVx▸i2) hV1
 have hyy:V[(n-1).toNat]? =some x.ac:=by rw [hV];exact gV hx
 have hup:=sj hx
 have hst2:d<bg V→sT ns (ns.length-(d+1).toNat) (d+1) x.up=R:=fun hlt=>by rw [←h2,hfu d h0 hlt,jJ ns hn' hi,hup]
 have hst3:d=bg V→R=0:=fun he=>by rw [←h2,hfe d he,wR ns hn']
 obtain⟨a0,a1,⟨a2,a3,a4,a5,a6,a7,a8,a9,a10,a11,a12,⟨a13,a14⟩,⟨a15,a16⟩,⟨a17,a18⟩,⟨a19,a20⟩,⟨a21,a22⟩,⟨a23,a24⟩,⟨a25,a26⟩,a27,⟨⟨a28,a29⟩,⟨a30,a31⟩,⟨a32,a33⟩,⟨a34,a35⟩,⟨a36,a37⟩,⟨a38,a39⟩⟩,⟨⟨a40,a41⟩,⟨a42,a43⟩,⟨a44,a45⟩,⟨a46,a47⟩,⟨a48,a49⟩,⟨a50,a51⟩⟩,⟨a52,a53,a54,a55⟩,⟨a56,a57,a58,a59⟩,a60,a61⟩,a62,⟨a63⟩⟩:=x
 replace hyy:V[(n-1).toNat]? =some [.J a0,.view (vw ao a1),.J a2,.J a3,.J a4,.J a5,.J a6,.J a7,.B a8,.B a9,.J a10,.J a11,.J a12,.J a13,.J a14,.J a15,.J a16,.J a17,.J a18,.J a19,.J a20,.J a21,.J a22,.J a23,.J a24,.J a25,.J a26,.J a27,.J a28,.J a29,.J a30,.J a31,.J a32,.J a33,.J a34,.J a35,.J a36,.J a37,.J a38,.J a39,.J a40,.J a41,.J a42,.J a43,.J a44,.J a45,.J a46,.J a47,.J a48,.J a49,.J a50,.J a51,.J a52,.J a53,.J a54,.J a55,.J a56,.J a57,.J a58,.J a59,.J a60,.J a61,.B a62,.view (vw aJ.c a63)]:=hyy
 obtain⟨Va1,hVa1⟩:=nmE (vw ao a1)
 obtain⟨Va63,hVa63⟩:=nmE (vw aJ.c a63)
 rw [←hVa1,←hVa63]at hyy
 cbv
 refine ad hg (dc V n i1 hi2 hyy) ?_
 cbv
 rw [e1]
 exact gX hB (a0,d+1) [some 0] (wkS [0] (by decide) ⟨⟨_,rfl,rfl,rfl⟩,trivial⟩ ⟨rfl,rfl,rfl,trivial⟩) ⟨by simp only;omega,by simp only;omega,fun h=>hst2 (by simp only at h;omega),fun h=>hst3 (by simp only at h;omega)⟩ (by show(bg V+1).toNat-(d+1).toNat<(bg V+1).toNat-d.toNat;omega)
end Go.Proofs.YtdnnffbbhijmkaaGreat
