/- Structs that hold slices, as data. -/
import Derived.Test.YtdnnffbbhijmkaaGreatRau
set_option linter.unusedVariables false
set_option linter.unusedSimpArgs false
namespace Go.Proofs.YtdnnffbbhijmkaaGreat
open Go.ChangeShapes Go.WideShapes Go.ChangeAt Go.RowKit Am Go.Proofs.Tryz
set_option maxRecDepth 100000
def vwA{α:Type}(c:α→List AC)(xs:List α):List (List AC):=xs.map c
theorem bC{α:Type}(c:α→List AC)(xs:List α):(vwA c xs).length=xs.length:=by simp [vwA]
theorem gL{α:Type}{c:α→List AC}{xs:List α}{i:Nat}{x:α}(h:xs[i]? =some x):(vwA c xs)[i]? =some (c x):=by simp [vwA,h]
theorem xT{α:Type}{c:α→List AC}{k:Nat}(hk:∀x,(c x).length=k){xs:List α}:∀y∈vwA c xs,y.length=k:=by
 intro y hy
 simp only [vwA,List.mem_map]at hy
 obtain⟨x,_,rfl⟩:=hy
 exact hk x
theorem nA{α:Type}{c:α→List AC}(hd:∀x,(c x).all dat=true){xs:List α}:∀y∈vwA c xs,y.all dat=true:=by
 intro y hy
 simp only [vwA,List.mem_map]at hy
 obtain⟨x,_,rfl⟩:=hy
 exact hd x
theorem j8{α:Type}{c:α→List AC}(hp:∀x,(c x).all dx=true)(xs:List α):ah (vwA c xs)=true:=by
 simp only [ah,zqf]
 intro y hy
 simp only [vwA,List.mem_map]at hy
 obtain⟨x,_,rfl⟩:=hy
 exact List.all_eq_true.1 (hp x)
theorem sL{α:Type}{c:α→List AC}{q:List AC→Prop}{p:α→Prop}(hq:∀x,q x→∃a,x=c a∧p a):∀{xs:List (List AC)},(∀x∈xs,q x)→∃l:List α,xs=vwA c l∧∀a∈l,p a
 | [],_=>⟨[],rfl,by simp⟩
 |x::xs,h=>by
  obtain⟨a,ha,hp⟩:=hq x (h x (by simp))
  obtain⟨l,hl,hpl⟩:=sL hq (xs:=xs) fun y hy=>h y (by simp [hy])
  exact⟨a::l,by rw [ha,hl];rfl,fun b hb=>by rcases List.mem_cons.1 hb with rfl|hb;exact hp;exact hpl b hb⟩
theorem w8{α:Type}{c:α→Array Value}{q:List AC→Prop}(hq:∀x,q x→∃a,x=lc (c a)){xs:List (List AC)}(h:∀x∈xs,q x):∃l:List α,xs=vw c l:=by
 obtain⟨l,hl,_⟩:=sL (c:=fun a=>lc (c a)) (p:=fun _=>True) (fun x hx=>let⟨a,ha⟩:=hq x hx;⟨a,ha,trivial⟩) h
 exact⟨l,hl⟩
theorem aX{k:Sh}{ks:List Sh}:∀{xs:List AC},DtL (k::ks) xs→∃c cs,xs=c::cs∧Dt k c∧DtL ks cs
 | [],h=>by simp [DtL]at h
 |c::cs,h=>by unfold DtL at h;exact⟨c,cs,rfl,h.1,h.2⟩
theorem xB:∀{xs:List AC},DtL [] xs→xs=[]
 | [],_=>rfl
 |_::_,h=>by simp [DtL]at h
theorem fd{c:AC}(h:Dt .i c):∃n,c= .J n:=by unfold Dt at h;obtain⟨n,_,h⟩:=h;exact⟨n,h⟩
theorem FQ{c:AC}(h:Dt .b c):∃n,c= .B n:=by unfold Dt at h;exact h
theorem FP{ks:List Sh}{c:AC}(h:Dt (.s ks) c):∃xs:List (List AC),c= .view xs∧xs.length≤9223372036854775807∧∀x∈xs,DtL ks x:=by unfold Dt at h;exact h
theorem gB{n:Nat}{a z:Int}(h:a=(n:Int))(hz:z<a):z<(n:Int):=h▸hz
theorem Cm{es V:List (List AC)}{z:Int}(hl:es.length=V.length)(hz:z<bg V):z<bg es:=by rw [aD]at hz⊢;rw [hl];exact hz
theorem v8{es:List (List AC)}{z:Int}{j:Nat}(h0:0≤z)(hc:z<bg es)(hj:j=z.toNat):j<es.length:=by subst hj;rw [aD]at hc;omega
theorem wO{V:List (List AC)}{n:Nat}{L:Int}(hl:V.length=n)(h:(V.length:Int)≤L)(hL:L≤1048576):n≤1048576:=by omega
theorem o5{α:Type}{xs:List α}{p:α→Prop}{M z:Int}(hM:M=(xs.length:Int))(hz:M≤z)(h:∀(i:Nat)(y:α),i<z.toNat→xs[i]? =some y→p y):∀y∈xs,p y:=fun y hy=>by
 obtain⟨i,hi,he⟩:=List.getElem_of_mem hy
 exact h i y (by omega) (by rw [zqc hi,he])
theorem F9{P:Program}{n0 N:Nat}{g:Gd}(hg:g=G0 P n0 N){xs:List (List AC)}{z:Int}{j k:Nat}{K:Nat→Prop}(hz:0≤z)(hj:j=z.toNat)(hy:j<xs.length)(hK:K j):g .Y k xs z K:=by subst hg hj;exact⟨hz,hy,hK⟩
theorem yv{P:Program}{n0 N:Nat}{g:Gd}(hg:g=G0 P n0 N){h:EH}{f:FuncId}{args:List AT}{K:AV→EH→Prop}{Q:Int→Prop}(hc:dg P f args fun res rows=>∃R:Int,res= .t (ai R)∧rows=[]∧Q R)(hp:iO args=true)
  (hK:∀R,Q R→K (.t (.c (.J R))) (h++[])):g .C f h args K:=
 ud hg (fh hc hp fun res rows⟨R,h1,h2,h3⟩=>by subst h1 h2;exact⟨[],rfl,hK R h3⟩)
theorem Ax{F:List AT→EH→Prop}{eh:EH}{Q:Int→Prop}{z:Int}(hF:F=ny 0 (fun res h'=>∃rows,h'=rows.map .live∧(∃R:Int,res= .t (ai R)∧rows=[]∧Q R)))(h:Q z):F [.c (.J z)] eh:=
 dI hF rfl ⟨z,rfl,rfl,h⟩
theorem szZ{P:Program}{f:FuncId}{args:List AT}{V:List (List AC)}{L:Int}(hc:dg P f args fun res rows=>res= .t (ai (szR (bg V) L))∧rows=[]):dg P f args fun res rows=>∃R:Int,res= .t (ai R)∧rows=[]∧(R≤L∨R<0)∧(0≤R→(V.length:Int)≤L):=
 Con.mono hc fun res h'⟨rows,h1,h2,h3⟩=>⟨rows,h1,_,h2,h3,by unfold szR;rw [aD];split<;>omega,by unfold szR;rw [aD];split<;>omega⟩
theorem aJ.of_(x:List AC)(h:DtL [.i,.i,.i] x):∃a:aJ,x=lc (aJ.c a):=by
 obtain⟨c0,t0,rfl,d0,h⟩:=aX h
 obtain⟨c1,t1,rfl,d1,h⟩:=aX h
 obtain⟨c2,t2,rfl,d2,h⟩:=aX h
 obtain rfl:=xB h
 obtain⟨a0,rfl⟩:=fd d0
 obtain⟨a1,rfl⟩:=fd d1
 obtain⟨a2,rfl⟩:=fd d2
 exact⟨⟨a0,a1,a2⟩,rfl⟩
structure jS where
 rules:List aJ
def jS.ac:jS→List AC
 |⟨a0⟩=>[.view (vw aJ.c a0)]
def jS.small:jS→Prop
 |⟨a0⟩=>a0.length≤1048576∧True
def jS.fit:jS→Prop
 |⟨a0⟩=>a0.length≤9223372036854775807∧True
theorem Int.of_(x:List AC)(h:DtL [.i] x):∃a:Int,x=lc (ao a):=by
 obtain⟨c0,t0,rfl,d0,h⟩:=aX h
 obtain rfl:=xB h
 obtain⟨a0,rfl⟩:=fd d0
 exact⟨a0,rfl⟩
structure ak where
 up:Int
 kids:List Int
 style:aq
 measured:Bool
 table:jS
def ak.ac:ak→List AC
 |⟨a0,a1,⟨a2,a3,a4,a5,a6,a7,a8,a9,a10,a11,a12,⟨a13,a14⟩,⟨a15,a16⟩,⟨a17,a18⟩,⟨a19,a20⟩,⟨a21,a22⟩,⟨a23,a24⟩,⟨a25,a26⟩,a27,⟨⟨a28,a29⟩,⟨a30,a31⟩,⟨a32,a33⟩,⟨a34,a35⟩,⟨a36,a37⟩,⟨a38,a39⟩⟩,⟨⟨a40,a41⟩,⟨a42,a43⟩,⟨a44,a45⟩,⟨a46,a47⟩,⟨a48,a49⟩,⟨a50,a51⟩⟩,⟨a52,a53,a54,a55⟩,⟨a56,a57,a58,a59⟩,a60,a61⟩,a62,⟨a63⟩⟩=>[.imm (.int .i64 a0),.view (vw ao a1),.imm (.int .i64 a2),.imm (.int .i64 a3),.imm (.int .i64 a4),.imm (.int .i64 a5),.imm (.int .i64 a6),.imm (.int .i64 a7),.imm (.bool a8),.imm (.bool a9),.imm (.int .i64 a10),.imm (.int .i64 a11),.imm (.int .i64 a12),.imm (.int .i64 a13),.imm (.int .i64 a14),.imm (.int .i64 a15),.imm (.int .i64 a16),.imm (.int .i64 a17),.imm (.int .i64 a18),.imm (.int .i64 a19),.imm (.int .i64 a20),.imm (.int .i64 a21),.imm (.int .i64 a22),.imm (.int .i64 a23),.imm (.int .i64 a24),.imm (.int .i64 a25),.imm (.int .i64 a26),.imm (.int .i64 a27),.imm (.int .i64 a28),.imm (.int .i64 a29),.imm (.int .i64 a30),.imm (.int .i64 a31),.imm (.int .i64 a32),.imm (.int .i64 a33),.imm (.int .i64 a34),.imm (.int .i64 a35),.imm (.int .i64 a36),.imm (.int .i64 a37),.imm (.int .i64 a38),.imm (.int .i64 a39),.imm (.int .i64 a40),.imm (.int .i64 a41),.imm (.int .i64 a42),.imm (.int .i64 a43),.imm (.int .i64 a44),.imm (.int .i64 a45),.imm (.int .i64 a46),.imm (.int .i64 a47),.imm (.int .i64 a48),.imm (.int .i64 a49),.imm (.int .i64 a50),.imm (.int .i64 a51),.imm (.int .i64 a52),.imm (.int .i64 a53),.imm (.int .i64 a54),.imm (.int .i64 a55),.imm (.int .i64 a56),.imm (.int .i64 a57),.imm (.int .i64 a58),.imm (.int .i64 a59),.imm (.int .i64 a60),.imm (.int .i64 a61),.imm (.bool a62),.view (vw aJ.c a63)]
def ak.sh:List Sh:=[.i,.s [.i],.i,.i,.i,.i,.i,.i,.b,.b,.i,.i,.i,.i,.i,.i,.i,.i,.i,.i,.i,.i,.i,.i,.i,.i,.i,.i,.i,.i,.i,.i,.i,.i,.i,.i,.i,.i,.i,.i,.i,.i,.i,.i,.i,.i,.i,.i,.i,.i,.i,.i,.i,.i,.i,.i,.i,.i,.i,.i,.i,.i,.b,.s [.i,.i,.i]]
def ak.small:ak→Prop
 |⟨a0,a1,⟨a2,a3,a4,a5,a6,a7,a8,a9,a10,a11,a12,⟨a13,a14⟩,⟨a15,a16⟩,⟨a17,a18⟩,⟨a19,a20⟩,⟨a21,a22⟩,⟨a23,a24⟩,⟨a25,a26⟩,a27,⟨⟨a28,a29⟩,⟨a30,a31⟩,⟨a32,a33⟩,⟨a34,a35⟩,⟨a36,a37⟩,⟨a38,a39⟩⟩,⟨⟨a40,a41⟩,⟨a42,a43⟩,⟨a44,a45⟩,⟨a46,a47⟩,⟨a48,a49⟩,⟨a50,a51⟩⟩,⟨a52,a53,a54,a55⟩,⟨a56,a57,a58,a59⟩,a60,a61⟩,a62,⟨a63⟩⟩=>a1.length≤1048576∧a63.length≤1048576∧True
def ak.fit:ak→Prop
 |⟨a0,a1,⟨a2,a3,a4,a5,a6,a7,a8,a9,a10,a11,a12,⟨a13,a14⟩,⟨a15,a16⟩,⟨a17,a18⟩,⟨a19,a20⟩,⟨a21,a22⟩,⟨a23,a24⟩,⟨a25,a26⟩,a27,⟨⟨a28,a29⟩,⟨a30,a31⟩,⟨a32,a33⟩,⟨a34,a35⟩,⟨a36,a37⟩,⟨a38,a39⟩⟩,⟨⟨a40,a41⟩,⟨a42,a43⟩,⟨a44,a45⟩,⟨a46,a47⟩,⟨a48,a49⟩,⟨a50,a51⟩⟩,⟨a52,a53,a54,a55⟩,⟨a56,a57,a58,a59⟩,a60,a61⟩,a62,⟨a63⟩⟩=>a1.length≤9223372036854775807∧a63.length≤9223372036854775807∧True
theorem ak.len(x:ak):x.ac.length=64:=rfl
theorem ak.dat(x:ak):x.ac.all Am.dat=true:=rfl
theorem ak.plain(x:ak):x.ac.all Am.dx=true:=rfl
theorem ak.of_(x:List AC)(h:DtL ak.sh x):∃a:ak,x=a.ac∧a.fit:=by
 obtain⟨c0,t0,rfl,d0,h⟩:=aX h
 obtain⟨c1,t1,rfl,d1,h⟩:=aX h
 obtain⟨c2,t2,rfl,d2,h⟩:=aX h
 obtain⟨c3,t3,rfl,d3,h⟩:=aX h
 obtain⟨c4,t4,rfl,d4,h⟩:=aX h
 obtain⟨c5,t5,rfl,d5,h⟩:=aX h
 obtain⟨c6,t6,rfl,d6,h⟩:=aX h
 obtain⟨c7,t7,rfl,d7,h⟩:=aX h
 obtain⟨c8,t8,rfl,d8,h⟩:=aX h
 obtain⟨c9,t9,rfl,d9,h⟩:=aX h
 obtain⟨c10,t10,rfl,d10,h⟩:=aX h
 obtain⟨c11,t11,rfl,d11,h⟩:=aX h
 obtain⟨c12,t12,rfl,d12,h⟩:=aX h
 obtain⟨c13,t13,rfl,d13,h⟩:=aX h
 obtain⟨c14,t14,rfl,d14,h⟩:=aX h
 obtain⟨c15,t15,rfl,d15,h⟩:=aX h
 obtain⟨c16,t16,rfl,d16,h⟩:=aX h
 obtain⟨c17,t17,rfl,d17,h⟩:=aX h
 obtain⟨c18,t18,rfl,d18,h⟩:=aX h
 obtain⟨c19,t19,rfl,d19,h⟩:=aX h
 obtain⟨c20,t20,rfl,d20,h⟩:=aX h
 obtain⟨c21,t21,rfl,d21,h⟩:=aX h
 obtain⟨c22,t22,rfl,d22,h⟩:=aX h
 obtain⟨c23,t23,rfl,d23,h⟩:=aX h
 obtain⟨c24,t24,rfl,d24,h⟩:=aX h
 obtain⟨c25,t25,rfl,d25,h⟩:=aX h
 obtain⟨c26,t26,rfl,d26,h⟩:=aX h
 obtain⟨c27,t27,rfl,d27,h⟩:=aX h
 obtain⟨c28,t28,rfl,d28,h⟩:=aX h
 obtain⟨c29,t29,rfl,d29,h⟩:=aX h
 obtain⟨c30,t30,rfl,d30,h⟩:=aX h
 obtain⟨c31,t31,rfl,d31,h⟩:=aX h
 obtain⟨c32,t32,rfl,d32,h⟩:=aX h
 obtain⟨c33,t33,rfl,d33,h⟩:=aX h
 obtain⟨c34,t34,rfl,d34,h⟩:=aX h
 obtain⟨c35,t35,rfl,d35,h⟩:=aX h
 obtain⟨c36,t36,rfl,d36,h⟩:=aX h
 obtain⟨c37,t37,rfl,d37,h⟩:=aX h
 obtain⟨c38,t38,rfl,d38,h⟩:=aX h
 obtain⟨c39,t39,rfl,d39,h⟩:=aX h
 obtain⟨c40,t40,rfl,d40,h⟩:=aX h
 obtain⟨c41,t41,rfl,d41,h⟩:=aX h
 obtain⟨c42,t42,rfl,d42,h⟩:=aX h
 obtain⟨c43,t43,rfl,d43,h⟩:=aX h
 obtain⟨c44,t44,rfl,d44,h⟩:=aX h
 obtain⟨c45,t45,rfl,d45,h⟩:=aX h
 obtain⟨c46,t46,rfl,d46,h⟩:=aX h
 obtain⟨c47,t47,rfl,d47,h⟩:=aX h
 obtain⟨c48,t48,rfl,d48,h⟩:=aX h
 obtain⟨c49,t49,rfl,d49,h⟩:=aX h
 obtain⟨c50,t50,rfl,d50,h⟩:=aX h
 obtain⟨c51,t51,rfl,d51,h⟩:=aX h
 obtain⟨c52,t52,rfl,d52,h⟩:=aX h
 obtain⟨c53,t53,rfl,d53,h⟩:=aX h
 obtain⟨c54,t54,rfl,d54,h⟩:=aX h
 obtain⟨c55,t55,rfl,d55,h⟩:=aX h
 obtain⟨c56,t56,rfl,d56,h⟩:=aX h
 obtain⟨c57,t57,rfl,d57,h⟩:=aX h
 obtain⟨c58,t58,rfl,d58,h⟩:=aX h
 obtain⟨c59,t59,rfl,d59,h⟩:=aX h
 obtain⟨c60,t60,rfl,d60,h⟩:=aX h
 obtain⟨c61,t61,rfl,d61,h⟩:=aX h
 obtain⟨c62,t62,rfl,d62,h⟩:=aX h
 obtain⟨c63,t63,rfl,d63,h⟩:=aX h
 obtain rfl:=xB h
 obtain⟨a0,rfl⟩:=fd d0
 obtain⟨w1,rfl,l1,e1⟩:=FP d1
 obtain⟨a1,rfl⟩:=w8 (c:=ao) Int.of_ e1
 rw [af]at l1
 obtain⟨a2,rfl⟩:=fd d2
 obtain⟨a3,rfl⟩:=fd d3
 obtain⟨a4,rfl⟩:=fd d4
 obtain⟨a5,rfl⟩:=fd d5
 obtain⟨a6,rfl⟩:=fd d6
 obtain⟨a7,rfl⟩:=fd d7
 obtain⟨a8,rfl⟩:=FQ d8
 obtain⟨a9,rfl⟩:=FQ d9
 obtain⟨a10,rfl⟩:=fd d10
 obtain⟨a11,rfl⟩:=fd d11
 obtain⟨a12,rfl⟩:=fd d12
 obtain⟨a13,rfl⟩:=fd d13
 obtain⟨a14,rfl⟩:=fd d14
 obtain⟨a15,rfl⟩:=fd d15
 obtain⟨a16,rfl⟩:=fd d16
 obtain⟨a17,rfl⟩:=fd d17
 obtain⟨a18,rfl⟩:=fd d18
 obtain⟨a19,rfl⟩:=fd d19
 obtain⟨a20,rfl⟩:=fd d20
 obtain⟨a21,rfl⟩:=fd d21
 obtain⟨a22,rfl⟩:=fd d22
 obtain⟨a23,rfl⟩:=fd d23
 obtain⟨a24,rfl⟩:=fd d24
 obtain⟨a25,rfl⟩:=fd d25
 obtain⟨a26,rfl⟩:=fd d26
 obtain⟨a27,rfl⟩:=fd d27
 obtain⟨a28,rfl⟩:=fd d28
 obtain⟨a29,rfl⟩:=fd d29
 obtain⟨a30,rfl⟩:=fd d30
 obtain⟨a31,rfl⟩:=fd d31
 obtain⟨a32,rfl⟩:=fd d32
 obtain⟨a33,rfl⟩:=fd d33
 obtain⟨a34,rfl⟩:=fd d34
 obtain⟨a35,rfl⟩:=fd d35
 obtain⟨a36,rfl⟩:=fd d36
 obtain⟨a37,rfl⟩:=fd d37
 obtain⟨a38,rfl⟩:=fd d38
 obtain⟨a39,rfl⟩:=fd d39
 obtain⟨a40,rfl⟩:=fd d40
 obtain⟨a41,rfl⟩:=fd d41
 obtain⟨a42,rfl⟩:=fd d42
 obtain⟨a43,rfl⟩:=fd d43
 obtain⟨a44,rfl⟩:=fd d44
 obtain⟨a45,rfl⟩:=fd d45
 obtain⟨a46,rfl⟩:=fd d46
 obtain⟨a47,rfl⟩:=fd d47
 obtain⟨a48,rfl⟩:=fd d48
 obtain⟨a49,rfl⟩:=fd d49
 obtain⟨a50,rfl⟩:=fd d50
 obtain⟨a51,rfl⟩:=fd d51
 obtain⟨a52,rfl⟩:=fd d52
 obtain⟨a53,rfl⟩:=fd d53
 obtain⟨a54,rfl⟩:=fd d54
 obtain⟨a55,rfl⟩:=fd d55
 obtain⟨a56,rfl⟩:=fd d56
 obtain⟨a57,rfl⟩:=fd d57
 obtain⟨a58,rfl⟩:=fd d58
 obtain⟨a59,rfl⟩:=fd d59
 obtain⟨a60,rfl⟩:=fd d60
 obtain⟨a61,rfl⟩:=fd d61
 obtain⟨a62,rfl⟩:=FQ d62
 obtain⟨w63,rfl,l63,e63⟩:=FP d63
 obtain⟨a63,rfl⟩:=w8 (c:=aJ.c) aJ.of_ e63
 rw [af]at l63
 exact⟨⟨a0,a1,⟨a2,a3,a4,a5,a6,a7,a8,a9,a10,a11,a12,⟨a13,a14⟩,⟨a15,a16⟩,⟨a17,a18⟩,⟨a19,a20⟩,⟨a21,a22⟩,⟨a23,a24⟩,⟨a25,a26⟩,a27,⟨⟨a28,a29⟩,⟨a30,a31⟩,⟨a32,a33⟩,⟨a34,a35⟩,⟨a36,a37⟩,⟨a38,a39⟩⟩,⟨⟨a40,a41⟩,⟨a42,a43⟩,⟨a44,a45⟩,⟨a46,a47⟩,⟨a48,a49⟩,⟨a50,a51⟩⟩,⟨a52,a53,a54,a55⟩,⟨a56,a57,a58,a59⟩,a60,a61⟩,a62,⟨a63⟩⟩,rfl,⟨l1,l63,trivial⟩⟩
structure jX where
 nodes:List ak
def jX.ac:jX→List AC
 |⟨a0⟩=>[.view (vwA ak.ac a0)]
def jX.sh:List Sh:=[.s ak.sh]
def jX.small:jX→Prop
 |⟨a0⟩=>a0.length≤1048576∧(∀y∈a0,ak.small y)∧True
def jX.fit:jX→Prop
 |⟨a0⟩=>a0.length≤9223372036854775807∧(∀y∈a0,ak.fit y)∧True
theorem jX.of_(x:List AC)(h:DtL jX.sh x):∃a:jX,x=a.ac∧a.fit:=by
 obtain⟨c0,t0,rfl,d0,h⟩:=aX h
 obtain rfl:=xB h
 obtain⟨w0,rfl,l0,e0⟩:=FP d0
 obtain⟨a0,rfl,f0⟩:=sL (c:=ak.ac) ak.of_ e0
 rw [bC]at l0
 exact⟨⟨a0⟩,rfl,⟨l0,f0,trivial⟩⟩
structure jC where
 wide:Int
 high:Int
 base:Int
 frames:List aV
def jC.ac:jC→List AC
 |⟨a0,a1,a2,a3⟩=>[.imm (.int .i64 a0),.imm (.int .i64 a1),.imm (.int .i64 a2),.view (vw aV.c a3)]
structure n4 where
 node:Int
 wide:aF
 high:aF
 rtl:Bool
 box:jC
def n4.ac:n4→List AC
 |⟨a0,⟨a1,a2⟩,⟨a3,a4⟩,a5,⟨a6,a7,a8,a9⟩⟩=>[.imm (.int .i64 a0),.imm (.int .i64 a1),.imm (.int .i64 a2),.imm (.int .i64 a3),.imm (.int .i64 a4),.imm (.bool a5),.imm (.int .i64 a6),.imm (.int .i64 a7),.imm (.int .i64 a8),.view (vw aV.c a9)]
end Go.Proofs.YtdnnffbbhijmkaaGreat
