/- The laws' copies and comparisons of structs that hold slices. -/
import Derived.Test.YtdnnffbbhijmkaaGreatQau
set_option linter.unusedVariables false
set_option linter.unusedSimpArgs false
set_option maxHeartbeats 8000000
namespace Go.Proofs.YtdnnffbbhijmkaaGreat
open Go.ChangeShapes Go.WideShapes Go.ChangeAt Go.RowKit Am Go.Proofs.Tryz
set_option maxRecDepth 100000
theorem rG(x:j7)(hs:x.small):PC0 207 [.agg x.ac] (.t (.agg x.ac)):=by
 obtain⟨a0⟩:=x
 obtain⟨sa0,-⟩:=hs
 show PC0 _ [.agg [.view (vw aJ.c a0)]] (.t (.agg [.view (vw aJ.c a0)]))
 have c0:=Ev (rH a0 sa0)
 obtain⟨Va0,hVa0⟩:=nmE (vw aJ.c a0)
 have hVa0l:Va0.length=a0.length:=by rw [hVa0,af]
 have iVa0:bR Va0=true:=by rw [hVa0];exact aG _ _
 have kVa0:∀y∈Va0,y.length=3:=by rw [hVa0];exact bC (c:=aJ.c) (k:=3) fun _=>rfl
 have dVa0:∀y∈Va0,y.all dat=true:=by rw [hVa0];exact az
 rw [←hVa0]at c0
 rw [←hVa0]
 refine ae (aK f207) aD func207 fun g F hg hF=> ?_
 cbv
 repeat'((first|refine bB hg c0 (bp rfl) iVa0 ?_|refine bN hg c0 (bp rfl) iVa0 ?_);cbv)
 exact sP [.agg [.view Va0]] hF (.agg (by repeat'(first|exact .nil|refine .cons ?_ ?_|exact .imm _|exact .view _|exact bi (ab:=⟨_,_,Va0⟩) rfl kVa0 dVa0)) .nil) ⟨rfl,rfl⟩
theorem rN(x:j7)(hs:x.small):PC0 222 [.agg x.ac,.agg x.ac] (.t (abl true)):=by
 obtain⟨a0⟩:=x
 obtain⟨sa0,-⟩:=hs
 show PC0 _ [.agg [.view (vw aJ.c a0)],.agg [.view (vw aJ.c a0)]] (.t (abl true))
 have c0:=rP a0 a0 sa0
 rw [zqu rfl]at c0
 obtain⟨Va0,hVa0⟩:=nmE (vw aJ.c a0)
 have hVa0l:Va0.length=a0.length:=by rw [hVa0,af]
 have iVa0:bR Va0=true:=by rw [hVa0];exact aG _ _
 have kVa0:∀y∈Va0,y.length=3:=by rw [hVa0];exact bC (c:=aJ.c) (k:=3) fun _=>rfl
 have dVa0:∀y∈Va0,y.all dat=true:=by rw [hVa0];exact az
 rw [←hVa0]at c0
 rw [←hVa0]
 refine ae (aK f222) aD func222 fun g F hg hF=> ?_
 cbv
 have q:∀a:Int,g .q .neq a a=false:=fun a=>by rw [bk hg];simp
 have qb:∀a:Bool,g .qb .neq a a=false:=fun a=>by rw [fc hg];simp
 repeat'((first|rw [q]|rw [qb]|refine ad hg c0 ?_|refine aa hg c0 ?_);cbv)
 exact bj hF rfl
theorem rK(x:j7)(L:Int)(hf:x.fit)(h0:0≤L)(h1:L≤1048576):cY prog 194 [.agg x.ac,ai L] fun res rows=>∃R:Int,res= .i R∧rows=[]∧(R≤L∨R<0)∧(0≤R→x.small):=by
 obtain⟨a0⟩:=x
 obtain⟨sa0,-⟩:=hf
 show cY _ _ [.agg [.view (vw aJ.c a0)],ai L] (fun res rows=>∃R:Int,res= .i R∧rows=[]∧(R≤L∨R<0)∧(0≤R→j7.small ⟨a0⟩))
 have c0:=fun(M:Int)(h0:0≤M)(h1:M≤1048576)=>szZ (rL (vw aJ.c a0) M (by rw [af];exact sa0) h0 h1)
 obtain⟨Va0,hVa0⟩:=nmE (vw aJ.c a0)
 have hVa0l:Va0.length=a0.length:=by rw [hVa0,af]
 have iVa0:bR Va0=true:=by rw [hVa0];exact aG _ _
 have kVa0:∀y∈Va0,y.length=3:=by rw [hVa0];exact bC (c:=aJ.c) (k:=3) fun _=>rfl
 have dVa0:∀y∈Va0,y.all dat=true:=by rw [hVa0];exact az
 have c0':∀(M:Int),0≤M→M≤1048576→cY _ _ [.c (.view Va0),ai M] (fun res rows=>∃R:Int,res= .i R∧rows=[]∧(R≤M∨R<0)∧(0≤R→((Va0.length:Nat):Int)≤M)):=fun M h0 h1=>by have:=c0 M h0 h1;rw [←hVa0]at this;exact this
 rw [←hVa0]
 refine ae (aK f194) aD func194 fun g F hg hF=> ?_
 cbv
 refine yS hg (c0' L h0 h1) rfl (fun R0 hR0=> ?_)
 obtain⟨hR0,hB0⟩:=hR0
 cbv
 cases e0:g .q .lss R0 0
 case true=>
  cbv
  exact Be hF ⟨.inr (by decide),fun h=>absurd h (by decide)⟩
 rw [bn hg,zqo]at e0
 have p0:0≤R0:=by omega
 have r0:R0≤1048576:=by omega
 cbv
 exact Be hF ⟨.inl (by omega),fun _=>⟨xn hVa0l (hB0 p0) h1,trivial⟩⟩
theorem tV(x:ak)(hs:x.small):PC0 119 [.agg x.ac] (.t (.agg x.ac)):=by
 obtain⟨a0,a1,⟨a2,a3,a4,a5,a6,a7,a8,a9,a10,a11,a12,⟨a13,a14⟩,⟨a15,a16⟩,⟨a17,a18⟩,⟨a19,a20⟩,⟨a21,a22⟩,⟨a23,a24⟩,⟨a25,a26⟩,a27,⟨⟨a28,a29⟩,⟨a30,a31⟩,⟨a32,a33⟩,⟨a34,a35⟩,⟨a36,a37⟩,⟨a38,a39⟩⟩,⟨⟨a40,a41⟩,⟨a42,a43⟩,⟨a44,a45⟩,⟨a46,a47⟩,⟨a48,a49⟩,⟨a50,a51⟩⟩,⟨a52,a53,a54,a55⟩,⟨a56,a57,a58,a59⟩,a60,a61⟩,a62,⟨a63⟩⟩:=x
 obtain⟨sa1,sa63,-⟩:=hs
 show PC0 _ [.agg [.J a0,.view (vw ao a1),.J a2,.J a3,.J a4,.J a5,.J a6,.J a7,.B a8,.B a9,.J a10,.J a11,.J a12,.J a13,.J a14,.J a15,.J a16,.J a17,.J a18,.J a19,.J a20,.J a21,.J a22,.J a23,.J a24,.J a25,.J a26,.J a27,.J a28,.J a29,.J a30,.J a31,.J a32,.J a33,.J a34,.J a35,.J a36,.J a37,.J a38,.J a39,.J a40,.J a41,.J a42,.J a43,.J a44,.J a45,.J a46,.J a47,.J a48,.J a49,.J a50,.J a51,.J a52,.J a53,.J a54,.J a55,.J a56,.J a57,.J a58,.J a59,.J a60,.J a61,.B a62,.view (vw aJ.c a63)]] (.t (.agg [.J a0,.view (vw ao a1),.J a2,.J a3,.J a4,.J a5,.J a6,.J a7,.B a8,.B a9,.J a10,.J a11,.J a12,.J a13,.J a14,.J a15,.J a16,.J a17,.J a18,.J a19,.J a20,.J a21,.J a22,.J a23,.J a24,.J a25,.J a26,.J a27,.J a28,.J a29,.J a30,.J a31,.J a32,.J a33,.J a34,.J a35,.J a36,.J a37,.J a38,.J a39,.J a40,.J a41,.J a42,.J a43,.J a44,.J a45,.J a46,.J a47,.J a48,.J a49,.J a50,.J a51,.J a52,.J a53,.J a54,.J a55,.J a56,.J a57,.J a58,.J a59,.J a60,.J a61,.B a62,.view (vw aJ.c a63)]))
 have c1:=Ev (tW a1 sa1)
 have c63:PC0 207 [.agg [.view (vw aJ.c a63)]] (.t (.agg [.view (vw aJ.c a63)])):=rG ⟨a63⟩ ⟨sa63,trivial⟩
 obtain⟨Va1,hVa1⟩:=nmE (vw ao a1)
 have hVa1l:Va1.length=a1.length:=by rw [hVa1,af]
 have iVa1:bR Va1=true:=by rw [hVa1];exact aG _ _
 have kVa1:∀y∈Va1,y.length=1:=by rw [hVa1];exact bC (c:=ao) (k:=1) fun _=>rfl
 have dVa1:∀y∈Va1,y.all dat=true:=by rw [hVa1];exact az
 obtain⟨Va63,hVa63⟩:=nmE (vw aJ.c a63)
 have hVa63l:Va63.length=a63.length:=by rw [hVa63,af]
 have iVa63:bR Va63=true:=by rw [hVa63];exact aG _ _
 have kVa63:∀y∈Va63,y.length=3:=by rw [hVa63];exact bC (c:=aJ.c) (k:=3) fun _=>rfl
 have dVa63:∀y∈Va63,y.all dat=true:=by rw [hVa63];exact az
 rw [←hVa1]at c1
 rw [←hVa63]at c63
 rw [←hVa1,←hVa63]
 refine ae (aK f119) aD func119 fun g F hg hF=> ?_
 cbv
 repeat'((first|refine bB hg c1 (bp rfl) iVa1 ?_|refine bN hg c1 (bp rfl) iVa1 ?_|refine fH hg (ma (⟨a2,a3,a4,a5,a6,a7,a8,a9,a10,a11,a12,⟨a13,a14⟩,⟨a15,a16⟩,⟨a17,a18⟩,⟨a19,a20⟩,⟨a21,a22⟩,⟨a23,a24⟩,⟨a25,a26⟩,a27,⟨⟨a28,a29⟩,⟨a30,a31⟩,⟨a32,a33⟩,⟨a34,a35⟩,⟨a36,a37⟩,⟨a38,a39⟩⟩,⟨⟨a40,a41⟩,⟨a42,a43⟩,⟨a44,a45⟩,⟨a46,a47⟩,⟨a48,a49⟩,⟨a50,a51⟩⟩,⟨a52,a53,a54,a55⟩,⟨a56,a57,a58,a59⟩,a60,a61⟩:ar)) rfl rfl ?_|refine dI hg (ma (⟨a2,a3,a4,a5,a6,a7,a8,a9,a10,a11,a12,⟨a13,a14⟩,⟨a15,a16⟩,⟨a17,a18⟩,⟨a19,a20⟩,⟨a21,a22⟩,⟨a23,a24⟩,⟨a25,a26⟩,a27,⟨⟨a28,a29⟩,⟨a30,a31⟩,⟨a32,a33⟩,⟨a34,a35⟩,⟨a36,a37⟩,⟨a38,a39⟩⟩,⟨⟨a40,a41⟩,⟨a42,a43⟩,⟨a44,a45⟩,⟨a46,a47⟩,⟨a48,a49⟩,⟨a50,a51⟩⟩,⟨a52,a53,a54,a55⟩,⟨a56,a57,a58,a59⟩,a60,a61⟩:ar)) rfl rfl ?_|refine ad hg c63 ?_|refine aa hg c63 ?_);cbv)
 exact sP [.agg [.J a0,.view Va1,.J a2,.J a3,.J a4,.J a5,.J a6,.J a7,.B a8,.B a9,.J a10,.J a11,.J a12,.J a13,.J a14,.J a15,.J a16,.J a17,.J a18,.J a19,.J a20,.J a21,.J a22,.J a23,.J a24,.J a25,.J a26,.J a27,.J a28,.J a29,.J a30,.J a31,.J a32,.J a33,.J a34,.J a35,.J a36,.J a37,.J a38,.J a39,.J a40,.J a41,.J a42,.J a43,.J a44,.J a45,.J a46,.J a47,.J a48,.J a49,.J a50,.J a51,.J a52,.J a53,.J a54,.J a55,.J a56,.J a57,.J a58,.J a59,.J a60,.J a61,.B a62,.view Va63]] hF (.agg (by repeat'(first|exact .nil|refine .cons ?_ ?_|exact .imm _|exact .view _|exact bi (ab:=⟨_,_,Va1⟩) rfl kVa1 dVa1|exact bi (ab:=⟨_,_,Va63⟩) rfl kVa63 dVa63)) .nil) ⟨rfl,rfl⟩
theorem uc(x:ak)(hs:x.small):PC0 138 [.agg x.ac,.agg x.ac] (.t (abl true)):=by
 obtain⟨a0,a1,⟨a2,a3,a4,a5,a6,a7,a8,a9,a10,a11,a12,⟨a13,a14⟩,⟨a15,a16⟩,⟨a17,a18⟩,⟨a19,a20⟩,⟨a21,a22⟩,⟨a23,a24⟩,⟨a25,a26⟩,a27,⟨⟨a28,a29⟩,⟨a30,a31⟩,⟨a32,a33⟩,⟨a34,a35⟩,⟨a36,a37⟩,⟨a38,a39⟩⟩,⟨⟨a40,a41⟩,⟨a42,a43⟩,⟨a44,a45⟩,⟨a46,a47⟩,⟨a48,a49⟩,⟨a50,a51⟩⟩,⟨a52,a53,a54,a55⟩,⟨a56,a57,a58,a59⟩,a60,a61⟩,a62,⟨a63⟩⟩:=x
 obtain⟨sa1,sa63,-⟩:=hs
 show PC0 _ [.agg [.J a0,.view (vw ao a1),.J a2,.J a3,.J a4,.J a5,.J a6,.J a7,.B a8,.B a9,.J a10,.J a11,.J a12,.J a13,.J a14,.J a15,.J a16,.J a17,.J a18,.J a19,.J a20,.J a21,.J a22,.J a23,.J a24,.J a25,.J a26,.J a27,.J a28,.J a29,.J a30,.J a31,.J a32,.J a33,.J a34,.J a35,.J a36,.J a37,.J a38,.J a39,.J a40,.J a41,.J a42,.J a43,.J a44,.J a45,.J a46,.J a47,.J a48,.J a49,.J a50,.J a51,.J a52,.J a53,.J a54,.J a55,.J a56,.J a57,.J a58,.J a59,.J a60,.J a61,.B a62,.view (vw aJ.c a63)],.agg [.J a0,.view (vw ao a1),.J a2,.J a3,.J a4,.J a5,.J a6,.J a7,.B a8,.B a9,.J a10,.J a11,.J a12,.J a13,.J a14,.J a15,.J a16,.J a17,.J a18,.J a19,.J a20,.J a21,.J a22,.J a23,.J a24,.J a25,.J a26,.J a27,.J a28,.J a29,.J a30,.J a31,.J a32,.J a33,.J a34,.J a35,.J a36,.J a37,.J a38,.J a39,.J a40,.J a41,.J a42,.J a43,.J a44,.J a45,.J a46,.J a47,.J a48,.J a49,.J a50,.J a51,.J a52,.J a53,.J a54,.J a55,.J a56,.J a57,.J a58,.J a59,.J a60,.J a61,.B a62,.view (vw aJ.c a63)]] (.t (abl true))
 have c1:=ud a1 a1 sa1
 rw [zqu rfl]at c1
 have c2:PC0 221 [.agg [.J a2,.J a3,.J a4,.J a5,.J a6,.J a7,.B a8,.B a9,.J a10,.J a11,.J a12,.J a13,.J a14,.J a15,.J a16,.J a17,.J a18,.J a19,.J a20,.J a21,.J a22,.J a23,.J a24,.J a25,.J a26,.J a27,.J a28,.J a29,.J a30,.J a31,.J a32,.J a33,.J a34,.J a35,.J a36,.J a37,.J a38,.J a39,.J a40,.J a41,.J a42,.J a43,.J a44,.J a45,.J a46,.J a47,.J a48,.J a49,.J a50,.J a51,.J a52,.J a53,.J a54,.J a55,.J a56,.J a57,.J a58,.J a59,.J a60,.J a61],.agg [.J a2,.J a3,.J a4,.J a5,.J a6,.J a7,.B a8,.B a9,.J a10,.J a11,.J a12,.J a13,.J a14,.J a15,.J a16,.J a17,.J a18,.J a19,.J a20,.J a21,.J a22,.J a23,.J a24,.J a25,.J a26,.J a27,.J a28,.J a29,.J a30,.J a31,.J a32,.J a33,.J a34,.J a35,.J a36,.J a37,.J a38,.J a39,.J a40,.J a41,.J a42,.J a43,.J a44,.J a45,.J a46,.J a47,.J a48,.J a49,.J a50,.J a51,.J a52,.J a53,.J a54,.J a55,.J a56,.J a57,.J a58,.J a59,.J a60,.J a61]] (.t (abl (decide ((⟨a2,a3,a4,a5,a6,a7,a8,a9,a10,a11,a12,⟨a13,a14⟩,⟨a15,a16⟩,⟨a17,a18⟩,⟨a19,a20⟩,⟨a21,a22⟩,⟨a23,a24⟩,⟨a25,a26⟩,a27,⟨⟨a28,a29⟩,⟨a30,a31⟩,⟨a32,a33⟩,⟨a34,a35⟩,⟨a36,a37⟩,⟨a38,a39⟩⟩,⟨⟨a40,a41⟩,⟨a42,a43⟩,⟨a44,a45⟩,⟨a46,a47⟩,⟨a48,a49⟩,⟨a50,a51⟩⟩,⟨a52,a53,a54,a55⟩,⟨a56,a57,a58,a59⟩,a60,a61⟩:ar)=⟨a2,a3,a4,a5,a6,a7,a8,a9,a10,a11,a12,⟨a13,a14⟩,⟨a15,a16⟩,⟨a17,a18⟩,⟨a19,a20⟩,⟨a21,a22⟩,⟨a23,a24⟩,⟨a25,a26⟩,a27,⟨⟨a28,a29⟩,⟨a30,a31⟩,⟨a32,a33⟩,⟨a34,a35⟩,⟨a36,a37⟩,⟨a38,a39⟩⟩,⟨⟨a40,a41⟩,⟨a42,a43⟩,⟨a44,a45⟩,⟨a46,a47⟩,⟨a48,a49⟩,⟨a50,a51⟩⟩,⟨a52,a53,a54,a55⟩,⟨a56,a57,a58,a59⟩,a60,a61⟩)))):=rO ⟨a2,a3,a4,a5,a6,a7,a8,a9,a10,a11,a12,⟨a13,a14⟩,⟨a15,a16⟩,⟨a17,a18⟩,⟨a19,a20⟩,⟨a21,a22⟩,⟨a23,a24⟩,⟨a25,a26⟩,a27,⟨⟨a28,a29⟩,⟨a30,a31⟩,⟨a32,a33⟩,⟨a34,a35⟩,⟨a36,a37⟩,⟨a38,a39⟩⟩,⟨⟨a40,a41⟩,⟨a42,a43⟩,⟨a44,a45⟩,⟨a46,a47⟩,⟨a48,a49⟩,⟨a50,a51⟩⟩,⟨a52,a53,a54,a55⟩,⟨a56,a57,a58,a59⟩,a60,a61⟩ ⟨a2,a3,a4,a5,a6,a7,a8,a9,a10,a11,a12,⟨a13,a14⟩,⟨a15,a16⟩,⟨a17,a18⟩,⟨a19,a20⟩,⟨a21,a22⟩,⟨a23,a24⟩,⟨a25,a26⟩,a27,⟨⟨a28,a29⟩,⟨a30,a31⟩,⟨a32,a33⟩,⟨a34,a35⟩,⟨a36,a37⟩,⟨a38,a39⟩⟩,⟨⟨a40,a41⟩,⟨a42,a43⟩,⟨a44,a45⟩,⟨a46,a47⟩,⟨a48,a49⟩,⟨a50,a51⟩⟩,⟨a52,a53,a54,a55⟩,⟨a56,a57,a58,a59⟩,a60,a61⟩
 rw [zqu rfl]at c2
 have c63:PC0 222 [.agg [.view (vw aJ.c a63)],.agg [.view (vw aJ.c a63)]] (.t (abl true)):=rN ⟨a63⟩ ⟨sa63,trivial⟩
 obtain⟨Va1,hVa1⟩:=nmE (vw ao a1)
 have hVa1l:Va1.length=a1.length:=by rw [hVa1,af]
 have iVa1:bR Va1=true:=by rw [hVa1];exact aG _ _
 have kVa1:∀y∈Va1,y.length=1:=by rw [hVa1];exact bC (c:=ao) (k:=1) fun _=>rfl
 have dVa1:∀y∈Va1,y.all dat=true:=by rw [hVa1];exact az
 obtain⟨Va63,hVa63⟩:=nmE (vw aJ.c a63)
 have hVa63l:Va63.length=a63.length:=by rw [hVa63,af]
 have iVa63:bR Va63=true:=by rw [hVa63];exact aG _ _
 have kVa63:∀y∈Va63,y.length=3:=by rw [hVa63];exact bC (c:=aJ.c) (k:=3) fun _=>rfl
 have dVa63:∀y∈Va63,y.all dat=true:=by rw [hVa63];exact az
 rw [←hVa1]at c1
 rw [←hVa63]at c63
 rw [←hVa1,←hVa63]
 refine ae (aK f138) aD func138 fun g F hg hF=> ?_
 cbv
 have q:∀a:Int,g .q .neq a a=false:=fun a=>by rw [bk hg];simp
 have qb:∀a:Bool,g .qb .neq a a=false:=fun a=>by rw [fc hg];simp
 repeat'((first|rw [q]|rw [qb]|refine ad hg c1 ?_|refine aa hg c1 ?_|refine ad hg c2 ?_|refine aa hg c2 ?_|refine ad hg c63 ?_|refine aa hg c63 ?_);cbv)
 exact bj hF rfl
theorem tY(x:ak)(L:Int)(hf:x.fit)(h0:0≤L)(h1:L≤1048576):cY prog 105 [.agg x.ac,ai L] fun res rows=>∃R:Int,res= .i R∧rows=[]∧(R≤L∨R<0)∧(0≤R→x.small):=by
 obtain⟨a0,a1,⟨a2,a3,a4,a5,a6,a7,a8,a9,a10,a11,a12,⟨a13,a14⟩,⟨a15,a16⟩,⟨a17,a18⟩,⟨a19,a20⟩,⟨a21,a22⟩,⟨a23,a24⟩,⟨a25,a26⟩,a27,⟨⟨a28,a29⟩,⟨a30,a31⟩,⟨a32,a33⟩,⟨a34,a35⟩,⟨a36,a37⟩,⟨a38,a39⟩⟩,⟨⟨a40,a41⟩,⟨a42,a43⟩,⟨a44,a45⟩,⟨a46,a47⟩,⟨a48,a49⟩,⟨a50,a51⟩⟩,⟨a52,a53,a54,a55⟩,⟨a56,a57,a58,a59⟩,a60,a61⟩,a62,⟨a63⟩⟩:=x
 obtain⟨sa1,sa63,-⟩:=hf
 show cY _ _ [.agg [.J a0,.view (vw ao a1),.J a2,.J a3,.J a4,.J a5,.J a6,.J a7,.B a8,.B a9,.J a10,.J a11,.J a12,.J a13,.J a14,.J a15,.J a16,.J a17,.J a18,.J a19,.J a20,.J a21,.J a22,.J a23,.J a24,.J a25,.J a26,.J a27,.J a28,.J a29,.J a30,.J a31,.J a32,.J a33,.J a34,.J a35,.J a36,.J a37,.J a38,.J a39,.J a40,.J a41,.J a42,.J a43,.J a44,.J a45,.J a46,.J a47,.J a48,.J a49,.J a50,.J a51,.J a52,.J a53,.J a54,.J a55,.J a56,.J a57,.J a58,.J a59,.J a60,.J a61,.B a62,.view (vw aJ.c a63)],ai L] (fun res rows=>∃R:Int,res= .i R∧rows=[]∧(R≤L∨R<0)∧(0≤R→ak.small ⟨a0,a1,⟨a2,a3,a4,a5,a6,a7,a8,a9,a10,a11,a12,⟨a13,a14⟩,⟨a15,a16⟩,⟨a17,a18⟩,⟨a19,a20⟩,⟨a21,a22⟩,⟨a23,a24⟩,⟨a25,a26⟩,a27,⟨⟨a28,a29⟩,⟨a30,a31⟩,⟨a32,a33⟩,⟨a34,a35⟩,⟨a36,a37⟩,⟨a38,a39⟩⟩,⟨⟨a40,a41⟩,⟨a42,a43⟩,⟨a44,a45⟩,⟨a46,a47⟩,⟨a48,a49⟩,⟨a50,a51⟩⟩,⟨a52,a53,a54,a55⟩,⟨a56,a57,a58,a59⟩,a60,a61⟩,a62,⟨a63⟩⟩))
 have c1:=fun(M:Int)(h0:0≤M)(h1:M≤1048576)=>szZ (tZ (vw ao a1) M (by rw [af];exact sa1) h0 h1)
 have c63:∀(M:Int)(h0:0≤M)(h1:M≤1048576),cY prog 194 [.agg [.view (vw aJ.c a63)],ai M] (fun res rows=>∃R:Int,res= .i R∧rows=[]∧(R≤M∨R<0)∧(0≤R→j7.small ⟨a63⟩)):=fun M h0 h1=>rK ⟨a63⟩ M ⟨sa63,trivial⟩ h0 h1
 obtain⟨Va1,hVa1⟩:=nmE (vw ao a1)
 have hVa1l:Va1.length=a1.length:=by rw [hVa1,af]
 have iVa1:bR Va1=true:=by rw [hVa1];exact aG _ _
 have kVa1:∀y∈Va1,y.length=1:=by rw [hVa1];exact bC (c:=ao) (k:=1) fun _=>rfl
 have dVa1:∀y∈Va1,y.all dat=true:=by rw [hVa1];exact az
 obtain⟨Va63,hVa63⟩:=nmE (vw aJ.c a63)
 have hVa63l:Va63.length=a63.length:=by rw [hVa63,af]
 have iVa63:bR Va63=true:=by rw [hVa63];exact aG _ _
 have kVa63:∀y∈Va63,y.length=3:=by rw [hVa63];exact bC (c:=aJ.c) (k:=3) fun _=>rfl
 have dVa63:∀y∈Va63,y.all dat=true:=by rw [hVa63];exact az
 have c1':∀(M:Int),0≤M→M≤1048576→cY _ _ [.c (.view Va1),ai M] (fun res rows=>∃R:Int,res= .i R∧rows=[]∧(R≤M∨R<0)∧(0≤R→((Va1.length:Nat):Int)≤M)):=fun M h0 h1=>by have:=c1 M h0 h1;rw [←hVa1]at this;exact this
 simp only [←hVa63]at c63
 rw [←hVa1,←hVa63]
 refine ae (aK f105) aD func105 fun g F hg hF=> ?_
 cbv
 refine yS hg (c1' L h0 h1) rfl (fun R0 hR0=> ?_)
 obtain⟨hR0,hB0⟩:=hR0
 cbv
 cases e0:g .q .lss R0 0
 case true=>
  cbv
  exact Be hF ⟨.inr (by decide),fun h=>absurd h (by decide)⟩
 rw [bn hg,zqo]at e0
 have p0:0≤R0:=by omega
 have r0:R0≤1048576:=by omega
 cbv
 refine yS hg (c63 R0 p0 r0) rfl (fun R1 hR1=> ?_)
 obtain⟨hR1,hB1⟩:=hR1
 cbv
 cases e1:g .q .lss R1 0
 case true=>
  cbv
  exact Be hF ⟨.inr (by decide),fun h=>absurd h (by decide)⟩
 rw [bn hg,zqo]at e1
 have p1:0≤R1:=by omega
 have r1:R1≤1048576:=by omega
 cbv
 exact Be hF ⟨.inl (by omega),fun _=>⟨xn hVa1l (hB0 p0) h1,(hB1 p1).1,trivial⟩⟩
theorem rJ(xs:List ak)(hl:xs.length≤1048576)(hs:∀y∈xs,y.small):PC0 67 [.c (.view (vwA ak.ac xs))] (.t (.c (.view (vwA ak.ac xs)))):=by
 obtain⟨V,hV⟩:=nmE (vwA ak.ac xs)
 have hVl:V.length=xs.length:=by rw [hV,bE]
 have kV:∀y∈V,y.length=64:=by rw [hV];exact yt ak.len
 have dV:∀y∈V,y.all dat=true:=by rw [hV];exact nT ak.dat
 have hVx:bg V=(xs.length:Int):=by rw [aB];omega
 have hV1:bg V≤1048576:=by omega
 have hV0:0≤bg V:=by omega
 rw [←hV]
 refine ae (aK f67) aD func67 fun g F hg hF=> ?_
 cbv
 refine D0 hg (by decide) (by rw [hVl];exact hl) ?_
 cbv
 have hst:uV 64 V (List.replicate (g .ln V).toNat [.J 0,.N,.J 0,.J 0,.J 0,.J 0,.J 0,.J 0,.B false,.B false,.J 0,.J 0,.J 0,.J 0,.J 0,.J 0,.J 0,.J 0,.J 0,.J 0,.J 0,.J 0,.J 0,.J 0,.J 0,.J 0,.J 0,.J 0,.J 0,.J 0,.J 0,.J 0,.J 0,.J 0,.J 0,.J 0,.J 0,.J 0,.J 0,.J 0,.J 0,.J 0,.J 0,.J 0,.J 0,.J 0,.J 0,.J 0,.J 0,.J 0,.J 0,.J 0,.J 0,.J 0,.J 0,.J 0,.J 0,.J 0,.J 0,.J 0,.J 0,.J 0,.B false,.N]) 0:=uV.start (k:=64) (z:=[.J 0,.N,.J 0,.J 0,.J 0,.J 0,.J 0,.J 0,.B false,.B false,.J 0,.J 0,.J 0,.J 0,.J 0,.J 0,.J 0,.J 0,.J 0,.J 0,.J 0,.J 0,.J 0,.J 0,.J 0,.J 0,.J 0,.J 0,.J 0,.J 0,.J 0,.J 0,.J 0,.J 0,.J 0,.J 0,.J 0,.J 0,.J 0,.J 0,.J 0,.J 0,.J 0,.J 0,.J 0,.J 0,.J 0,.J 0,.J 0,.J 0,.J 0,.J 0,.J 0,.J 0,.J 0,.J 0,.J 0,.J 0,.J 0,.J 0,.J 0,.J 0,.B false,.N]) rfl rfl (bD hg V)
 refine bU hg aD (by kernel_rfl) (fun s:Int×LLA=>[(0,.v V),(3,.o 0),(4,.i s.1)]) (fun s=>[.rw ⟨148,64,s.2⟩]) (fun s=>uV 64 V s.2 s.1) (fun s=>(bg V).toNat-s.1.toNat)
  (0,g .rp (g .ln V) [.J 0,.N,.J 0,.J 0,.J 0,.J 0,.J 0,.J 0,.B false,.B false,.J 0,.J 0,.J 0,.J 0,.J 0,.J 0,.J 0,.J 0,.J 0,.J 0,.J 0,.J 0,.J 0,.J 0,.J 0,.J 0,.J 0,.J 0,.J 0,.J 0,.J 0,.J 0,.J 0,.J 0,.J 0,.J 0,.J 0,.J 0,.J 0,.J 0,.J 0,.J 0,.J 0,.J 0,.J 0,.J 0,.J 0,.J 0,.J 0,.J 0,.J 0,.J 0,.J 0,.J 0,.J 0,.J 0,.J 0,.J 0,.J 0,.J 0,.J 0,.J 0,.B false,.N]) [some 0] ?_ (wkS [0] (by decide) ⟨⟨_,rfl,rfl,?_⟩,trivial⟩ ⟨rfl,rfl,rfl,trivial⟩) (fun s B hs' hB=> ?_)
 ·simp only [yM hg];exact hst
 ·simp only [yM hg];exact hst.pl
 ·obtain⟨z,es⟩:=s
  simp only at hs'
  have h0:=hs'.z0
  have h1:=hs'.z1
  have hlen:=hs'.len
  cbv
  cases hc:g .q .lss z (g .ln V)
  ·cbv
   rw [bn hg,bD hg,zqo]at hc
   obtain rfl:=hs'.done hc
   exact sP [.c (.view es)] hF (.c (bi (ab:=⟨_,_,es⟩) rfl kV dV) .nil) ⟨rfl,rfl⟩
  ·cbv
   rw [bn hg,bD hg,zqp]at hc
   obtain⟨x,hx⟩:=qT (xs:=xs) h0 (gJ hVx hc)
   have hsx:=hs x (zqd hx)
   have hyy:V[z.toNat]? =some x.ac:=by rw [hV];exact gV hx
   have cx:=tV x hsx
   obtain⟨a0,a1,⟨a2,a3,a4,a5,a6,a7,a8,a9,a10,a11,a12,⟨a13,a14⟩,⟨a15,a16⟩,⟨a17,a18⟩,⟨a19,a20⟩,⟨a21,a22⟩,⟨a23,a24⟩,⟨a25,a26⟩,a27,⟨⟨a28,a29⟩,⟨a30,a31⟩,⟨a32,a33⟩,⟨a34,a35⟩,⟨a36,a37⟩,⟨a38,a39⟩⟩,⟨⟨a40,a41⟩,⟨a42,a43⟩,⟨a44,a45⟩,⟨a46,a47⟩,⟨a48,a49⟩,⟨a50,a51⟩⟩,⟨a52,a53,a54,a55⟩,⟨a56,a57,a58,a59⟩,a60,a61⟩,a62,⟨a63⟩⟩:=x
   replace hyy:V[z.toNat]? =some [.J a0,.view (vw ao a1),.J a2,.J a3,.J a4,.J a5,.J a6,.J a7,.B a8,.B a9,.J a10,.J a11,.J a12,.J a13,.J a14,.J a15,.J a16,.J a17,.J a18,.J a19,.J a20,.J a21,.J a22,.J a23,.J a24,.J a25,.J a26,.J a27,.J a28,.J a29,.J a30,.J a31,.J a32,.J a33,.J a34,.J a35,.J a36,.J a37,.J a38,.J a39,.J a40,.J a41,.J a42,.J a43,.J a44,.J a45,.J a46,.J a47,.J a48,.J a49,.J a50,.J a51,.J a52,.J a53,.J a54,.J a55,.J a56,.J a57,.J a58,.J a59,.J a60,.J a61,.B a62,.view (vw aJ.c a63)]:=hyy
   replace cx:PC0 _ [.agg [.J a0,.view (vw ao a1),.J a2,.J a3,.J a4,.J a5,.J a6,.J a7,.B a8,.B a9,.J a10,.J a11,.J a12,.J a13,.J a14,.J a15,.J a16,.J a17,.J a18,.J a19,.J a20,.J a21,.J a22,.J a23,.J a24,.J a25,.J a26,.J a27,.J a28,.J a29,.J a30,.J a31,.J a32,.J a33,.J a34,.J a35,.J a36,.J a37,.J a38,.J a39,.J a40,.J a41,.J a42,.J a43,.J a44,.J a45,.J a46,.J a47,.J a48,.J a49,.J a50,.J a51,.J a52,.J a53,.J a54,.J a55,.J a56,.J a57,.J a58,.J a59,.J a60,.J a61,.B a62,.view (vw aJ.c a63)]] (.t (.agg [.J a0,.view (vw ao a1),.J a2,.J a3,.J a4,.J a5,.J a6,.J a7,.B a8,.B a9,.J a10,.J a11,.J a12,.J a13,.J a14,.J a15,.J a16,.J a17,.J a18,.J a19,.J a20,.J a21,.J a22,.J a23,.J a24,.J a25,.J a26,.J a27,.J a28,.J a29,.J a30,.J a31,.J a32,.J a33,.J a34,.J a35,.J a36,.J a37,.J a38,.J a39,.J a40,.J a41,.J a42,.J a43,.J a44,.J a45,.J a46,.J a47,.J a48,.J a49,.J a50,.J a51,.J a52,.J a53,.J a54,.J a55,.J a56,.J a57,.J a58,.J a59,.J a60,.J a61,.B a62,.view (vw aJ.c a63)])):=cx
   obtain⟨Va1,hVa1⟩:=nmE (vw ao a1)
   obtain⟨Va63,hVa63⟩:=nmE (vw aJ.c a63)
   rw [←hVa1,←hVa63]at hyy cx
   refine goX hg _ h0 hyy rfl ?_
   cbv
   refine ad hg cx ?_
   cbv
   obtain⟨j,hj⟩:=nmE z.toNat
   refine GO hg h0 hj (wE h0 (CV hlen hc) hj) ?_
   cbv
   refine goN hg (hs'.mem (wE h0 (CV hlen hc) hj)) ?_
   cbv
   have h2:g .w .add .i64 z 1=z+1:=by rw [aM hg,aC _ (by omega)]
   rw [h2,mH hg]
   have hs2:=hs'.step hc hj hyy rfl rfl
   exact gX hB (z+1,_) [some 0] (wkS [0] (by decide) ⟨⟨_,rfl,rfl,hs2.pl⟩,trivial⟩ ⟨rfl,rfl,rfl,trivial⟩) hs2 (by show(bg V).toNat-(z+1).toNat<(bg V).toNat-z.toNat;omega)
theorem rQ(xs:List ak)(hl:xs.length≤1048576)(hs:∀y∈xs,y.small):PC0 73 [.c (.view (vwA ak.ac xs)),.c (.view (vwA ak.ac xs))] (.t (abl true)):=by
 obtain⟨V,hV⟩:=nmE (vwA ak.ac xs)
 have hVl:V.length=xs.length:=by rw [hV,bE]
 have hVx:bg V=(xs.length:Int):=by rw [aB];omega
 have hV1:bg V≤1048576:=by omega
 have hV0:0≤bg V:=by omega
 rw [←hV]
 refine ae (aK f73) aD func73 fun g F hg hF=> ?_
 cbv
 have q:∀a:Int,g .q .neq a a=false:=fun a=>by rw [bk hg];simp
 rw [q]
 cbv
 refine bU hg aD (by kernel_rfl) (fun z:Int=>[(0,.v V),(1,.v V),(5,.i z)]) (fun _=>[]) (fun z=>0≤z∧z≤bg V) (fun z=>(bg V).toNat-z.toNat)
  0 [] ⟨Int.le_refl 0,hV0⟩ (wk0 ⟨rfl,rfl,rfl,trivial⟩) (fun z B hs' hB=> ?_)
 obtain⟨h0,h1⟩:=hs'
 cbv
 cases hc:g .q .lss z (g .ln V)
 ·cbv
  exact bj hF rfl
 ·rw [bn hg,bD hg,zqp]at hc
  cbv
  obtain⟨x,hx⟩:=qT (xs:=xs) h0 (gJ hVx hc)
  have hsx:=hs x (zqd hx)
  have hyy:V[z.toNat]? =some x.ac:=by rw [hV];exact gV hx
  have cx:=uc x hsx
  obtain⟨a0,a1,⟨a2,a3,a4,a5,a6,a7,a8,a9,a10,a11,a12,⟨a13,a14⟩,⟨a15,a16⟩,⟨a17,a18⟩,⟨a19,a20⟩,⟨a21,a22⟩,⟨a23,a24⟩,⟨a25,a26⟩,a27,⟨⟨a28,a29⟩,⟨a30,a31⟩,⟨a32,a33⟩,⟨a34,a35⟩,⟨a36,a37⟩,⟨a38,a39⟩⟩,⟨⟨a40,a41⟩,⟨a42,a43⟩,⟨a44,a45⟩,⟨a46,a47⟩,⟨a48,a49⟩,⟨a50,a51⟩⟩,⟨a52,a53,a54,a55⟩,⟨a56,a57,a58,a59⟩,a60,a61⟩,a62,⟨a63⟩⟩:=x
  replace hyy:V[z.toNat]? =some [.J a0,.view (vw ao a1),.J a2,.J a3,.J a4,.J a5,.J a6,.J a7,.B a8,.B a9,.J a10,.J a11,.J a12,.J a13,.J a14,.J a15,.J a16,.J a17,.J a18,.J a19,.J a20,.J a21,.J a22,.J a23,.J a24,.J a25,.J a26,.J a27,.J a28,.J a29,.J a30,.J a31,.J a32,.J a33,.J a34,.J a35,.J a36,.J a37,.J a38,.J a39,.J a40,.J a41,.J a42,.J a43,.J a44,.J a45,.J a46,.J a47,.J a48,.J a49,.J a50,.J a51,.J a52,.J a53,.J a54,.J a55,.J a56,.J a57,.J a58,.J a59,.J a60,.J a61,.B a62,.view (vw aJ.c a63)]:=hyy
  replace cx:PC0 _ [.agg [.J a0,.view (vw ao a1),.J a2,.J a3,.J a4,.J a5,.J a6,.J a7,.B a8,.B a9,.J a10,.J a11,.J a12,.J a13,.J a14,.J a15,.J a16,.J a17,.J a18,.J a19,.J a20,.J a21,.J a22,.J a23,.J a24,.J a25,.J a26,.J a27,.J a28,.J a29,.J a30,.J a31,.J a32,.J a33,.J a34,.J a35,.J a36,.J a37,.J a38,.J a39,.J a40,.J a41,.J a42,.J a43,.J a44,.J a45,.J a46,.J a47,.J a48,.J a49,.J a50,.J a51,.J a52,.J a53,.J a54,.J a55,.J a56,.J a57,.J a58,.J a59,.J a60,.J a61,.B a62,.view (vw aJ.c a63)],.agg [.J a0,.view (vw ao a1),.J a2,.J a3,.J a4,.J a5,.J a6,.J a7,.B a8,.B a9,.J a10,.J a11,.J a12,.J a13,.J a14,.J a15,.J a16,.J a17,.J a18,.J a19,.J a20,.J a21,.J a22,.J a23,.J a24,.J a25,.J a26,.J a27,.J a28,.J a29,.J a30,.J a31,.J a32,.J a33,.J a34,.J a35,.J a36,.J a37,.J a38,.J a39,.J a40,.J a41,.J a42,.J a43,.J a44,.J a45,.J a46,.J a47,.J a48,.J a49,.J a50,.J a51,.J a52,.J a53,.J a54,.J a55,.J a56,.J a57,.J a58,.J a59,.J a60,.J a61,.B a62,.view (vw aJ.c a63)]] (.t (abl true)):=cx
  obtain⟨Va1,hVa1⟩:=nmE (vw ao a1)
  obtain⟨Va63,hVa63⟩:=nmE (vw aJ.c a63)
  rw [←hVa1,←hVa63]at hyy cx
  refine goX hg _ h0 hyy rfl ?_
  cbv
  refine goX hg _ h0 hyy rfl ?_
  cbv
  (first|refine ad hg cx ?_|refine aa hg cx ?_)
  cbv
  have h3:g .w .add .i64 z 1=z+1:=by rw [aM hg,aC _ (by omega)]
  rw [h3]
  exact gX hB (z+1) [] (wk0 ⟨rfl,rfl,rfl,trivial⟩) ⟨by omega,by omega⟩ (by show(bg V).toNat-(z+1).toNat<(bg V).toNat-z.toNat;omega)
theorem rM(xs:List ak)(L:Int)(hl:xs.length≤9223372036854775807)(hf:∀y∈xs,y.fit)(h0L:0≤L)(h1L:L≤1048576):cY prog 61 [.c (.view (vwA ak.ac xs)),ai L] fun res rows=>∃R:Int,res= .i R∧rows=[]∧(R≤L∨R<0)∧(0≤R→xs.length≤1048576∧∀y∈xs,y.small):=by
 obtain⟨V,hV⟩:=nmE (vwA ak.ac xs)
 have hVl:V.length=xs.length:=by rw [hV,bE]
 have hVx:bg V=(xs.length:Int):=by rw [aB];omega
 have hV1:bg V≤9223372036854775807:=by omega
 have hV0:0≤bg V:=by omega
 have hsm:bg V≤1048576→xs.length≤1048576:=by omega
 rw [←hV]
 refine ae (aK f61) aD func61 fun g F hg hF=> ?_
 cbv
 obtain⟨D,hD⟩:=nmE (L-bg V)
 have e1:g .w .sub .i64 L (g .ln V)=D:=by rw [dd hg,bD hg,aC _ (by omega),hD]
 rw [e1]
 cases e:g .q .lss D 0
 case true=>
  cbv
  exact Be hF ⟨.inr (by decide),fun h=>absurd h (by decide)⟩
 rw [bn hg,zqo]at e
 have hsm2:=hsm (by omega)
 cbv
 refine bU hg aD (by kernel_rfl) (fun s:Int×Int=>[(0,.v V),(1,.i s.2),(5,.i s.1)]) (fun _=>[]) (fun s=>0≤s.1∧s.1≤bg V∧0≤s.2∧s.2≤L∧∀(i:Nat)(y:ak),i<s.1.toNat→xs[i]? =some y→y.small) (fun s=>(bg V).toNat-s.1.toNat)
  (0,D) [] ⟨Int.le_refl 0,hV0,by simp only;omega,by simp only;omega,fun i y hi=>by simp at hi⟩ (wk0 ⟨rfl,rfl,rfl,trivial⟩) (fun s B hs' hB=> ?_)
 obtain⟨z,M⟩:=s
 obtain⟨h0,h1,h2,h3,h4⟩:=hs'
 simp only at h0 h1 h2 h3 h4
 cbv
 cases hc:g .q .lss z (g .ln V)
 ·rw [bn hg,bD hg,zqo]at hc
  cbv
  exact Be hF ⟨.inl h3,fun _=>⟨hsm2,pr hVx (by omega) h4⟩⟩
 ·rw [bn hg,bD hg,zqp]at hc
  cbv
  obtain⟨x,hx⟩:=qT (xs:=xs) h0 (gJ hVx hc)
  have hfx:=hf x (zqd hx)
  have hyy:V[z.toNat]? =some x.ac:=by rw [hV];exact gV hx
  have cx:=tY x M hfx h2 (by omega)
  obtain⟨Sm,hSm⟩:∃Sm:Prop,Sm=x.small:=⟨_,rfl⟩
  rw [←hSm]at cx
  have hSx:Sm→∀y,xs[z.toNat]? =some y→y.small:=fun h y hy=>by rw [hx]at hy;cases hy;rw [←hSm];exact h
  clear hSm hfx hx
  obtain⟨a0,a1,⟨a2,a3,a4,a5,a6,a7,a8,a9,a10,a11,a12,⟨a13,a14⟩,⟨a15,a16⟩,⟨a17,a18⟩,⟨a19,a20⟩,⟨a21,a22⟩,⟨a23,a24⟩,⟨a25,a26⟩,a27,⟨⟨a28,a29⟩,⟨a30,a31⟩,⟨a32,a33⟩,⟨a34,a35⟩,⟨a36,a37⟩,⟨a38,a39⟩⟩,⟨⟨a40,a41⟩,⟨a42,a43⟩,⟨a44,a45⟩,⟨a46,a47⟩,⟨a48,a49⟩,⟨a50,a51⟩⟩,⟨a52,a53,a54,a55⟩,⟨a56,a57,a58,a59⟩,a60,a61⟩,a62,⟨a63⟩⟩:=x
  replace hyy:V[z.toNat]? =some [.J a0,.view (vw ao a1),.J a2,.J a3,.J a4,.J a5,.J a6,.J a7,.B a8,.B a9,.J a10,.J a11,.J a12,.J a13,.J a14,.J a15,.J a16,.J a17,.J a18,.J a19,.J a20,.J a21,.J a22,.J a23,.J a24,.J a25,.J a26,.J a27,.J a28,.J a29,.J a30,.J a31,.J a32,.J a33,.J a34,.J a35,.J a36,.J a37,.J a38,.J a39,.J a40,.J a41,.J a42,.J a43,.J a44,.J a45,.J a46,.J a47,.J a48,.J a49,.J a50,.J a51,.J a52,.J a53,.J a54,.J a55,.J a56,.J a57,.J a58,.J a59,.J a60,.J a61,.B a62,.view (vw aJ.c a63)]:=hyy
  replace cx:cY _ _ [.agg [.J a0,.view (vw ao a1),.J a2,.J a3,.J a4,.J a5,.J a6,.J a7,.B a8,.B a9,.J a10,.J a11,.J a12,.J a13,.J a14,.J a15,.J a16,.J a17,.J a18,.J a19,.J a20,.J a21,.J a22,.J a23,.J a24,.J a25,.J a26,.J a27,.J a28,.J a29,.J a30,.J a31,.J a32,.J a33,.J a34,.J a35,.J a36,.J a37,.J a38,.J a39,.J a40,.J a41,.J a42,.J a43,.J a44,.J a45,.J a46,.J a47,.J a48,.J a49,.J a50,.J a51,.J a52,.J a53,.J a54,.J a55,.J a56,.J a57,.J a58,.J a59,.J a60,.J a61,.B a62,.view (vw aJ.c a63)],ai M] (fun res rows=>∃R:Int,res= .i R∧rows=[]∧(R≤M∨R<0)∧(0≤R→Sm)):=cx
  obtain⟨Va1,hVa1⟩:=nmE (vw ao a1)
  obtain⟨Va63,hVa63⟩:=nmE (vw aJ.c a63)
  rw [←hVa1,←hVa63]at hyy cx
  refine goX hg _ h0 hyy rfl ?_
  cbv
  refine yS hg cx rfl (fun R hR=> ?_)
  obtain⟨hR,hBR⟩:=hR
  cbv
  cases e5:g .q .lss R 0
  case true=>
   cbv
   exact Be hF ⟨.inr (by decide),fun h=>absurd h (by decide)⟩
  rw [bn hg,zqo]at e5
  have pR:0≤R:=by omega
  cbv
  have h6:g .w .add .i64 z 1=z+1:=by rw [aM hg,aC _ (by omega)]
  rw [h6]
  refine gX hB (z+1,R) [] (wk0 ⟨rfl,rfl,rfl,trivial⟩) ⟨by simp only;omega,by simp only;omega,pR,by simp only;omega,fun i y hi hy=> ?_⟩ (by show(bg V).toNat-(z+1).toNat<(bg V).toNat-z.toNat;omega)
  by_cases hi2:i<z.toNat
  ·exact h4 i y hi2 hy
  ·have:i=z.toNat:=by simp only at hi;omega
   subst this
   exact hSx (hBR pR) y hy
theorem tS(x:kf)(hs:x.small):PC0 17 [.agg x.ac] (.t (.agg x.ac)):=by
 obtain⟨a0⟩:=x
 obtain⟨sa0,ua0,-⟩:=hs
 show PC0 _ [.agg [.view (vwA ak.ac a0)]] (.t (.agg [.view (vwA ak.ac a0)]))
 have c0:=rJ a0 sa0 ua0
 obtain⟨Va0,hVa0⟩:=nmE (vwA ak.ac a0)
 have hVa0l:Va0.length=a0.length:=by rw [hVa0,bE]
 have pVa0:aj Va0=true:=by rw [hVa0];exact kh ak.plain _
 have kVa0:∀y∈Va0,y.length=64:=by rw [hVa0];exact yt ak.len
 have dVa0:∀y∈Va0,y.all dat=true:=by rw [hVa0];exact nT ak.dat
 rw [←hVa0]at c0
 rw [←hVa0]
 refine ae (aK f17) aD func17 fun g F hg hF=> ?_
 cbv
 repeat'((first|refine ad hg c0 ?_|refine aa hg c0 ?_);cbv)
 exact sP [.agg [.view Va0]] hF (.agg (by repeat'(first|exact .nil|refine .cons ?_ ?_|exact .imm _|exact .view _|exact bi (ab:=⟨_,_,Va0⟩) rfl kVa0 dVa0)) .nil) ⟨rfl,rfl⟩
theorem ua(x:kf)(hs:x.small):PC0 21 [.agg x.ac,.agg x.ac] (.t (abl true)):=by
 obtain⟨a0⟩:=x
 obtain⟨sa0,ua0,-⟩:=hs
 show PC0 _ [.agg [.view (vwA ak.ac a0)],.agg [.view (vwA ak.ac a0)]] (.t (abl true))
 have c0:=rQ a0 sa0 ua0
 obtain⟨Va0,hVa0⟩:=nmE (vwA ak.ac a0)
 have hVa0l:Va0.length=a0.length:=by rw [hVa0,bE]
 have pVa0:aj Va0=true:=by rw [hVa0];exact kh ak.plain _
 have kVa0:∀y∈Va0,y.length=64:=by rw [hVa0];exact yt ak.len
 have dVa0:∀y∈Va0,y.all dat=true:=by rw [hVa0];exact nT ak.dat
 rw [←hVa0]at c0
 rw [←hVa0]
 refine ae (aK f21) aD func21 fun g F hg hF=> ?_
 cbv
 have q:∀a:Int,g .q .neq a a=false:=fun a=>by rw [bk hg];simp
 have qb:∀a:Bool,g .qb .neq a a=false:=fun a=>by rw [fc hg];simp
 repeat'((first|rw [q]|rw [qb]|refine ad hg c0 ?_|refine aa hg c0 ?_);cbv)
 exact bj hF rfl
theorem tX(x:kf)(L:Int)(hf:x.fit)(h0:0≤L)(h1:L≤1048576):cY prog 15 [.agg x.ac,ai L] fun res rows=>∃R:Int,res= .i R∧rows=[]∧(R≤L∨R<0)∧(0≤R→x.small):=by
 obtain⟨a0⟩:=x
 obtain⟨sa0,ua0,-⟩:=hf
 show cY _ _ [.agg [.view (vwA ak.ac a0)],ai L] (fun res rows=>∃R:Int,res= .i R∧rows=[]∧(R≤L∨R<0)∧(0≤R→kf.small ⟨a0⟩))
 have c0:=fun(M:Int)(h0:0≤M)(h1:M≤1048576)=>rM a0 M sa0 ua0 h0 h1
 obtain⟨Va0,hVa0⟩:=nmE (vwA ak.ac a0)
 have hVa0l:Va0.length=a0.length:=by rw [hVa0,bE]
 have pVa0:aj Va0=true:=by rw [hVa0];exact kh ak.plain _
 have kVa0:∀y∈Va0,y.length=64:=by rw [hVa0];exact yt ak.len
 have dVa0:∀y∈Va0,y.all dat=true:=by rw [hVa0];exact nT ak.dat
 simp only [←hVa0]at c0
 rw [←hVa0]
 refine ae (aK f15) aD func15 fun g F hg hF=> ?_
 cbv
 refine yS hg (c0 L h0 h1) rfl (fun R0 hR0=> ?_)
 obtain⟨hR0,hB0⟩:=hR0
 cbv
 cases e0:g .q .lss R0 0
 case true=>
  cbv
  exact Be hF ⟨.inr (by decide),fun h=>absurd h (by decide)⟩
 rw [bn hg,zqo]at e0
 have p0:0≤R0:=by omega
 have r0:R0≤1048576:=by omega
 cbv
 exact Be hF ⟨.inl (by omega),fun _=>⟨(hB0 p0).1,(hB0 p0).2,trivial⟩⟩
end Go.Proofs.YtdnnffbbhijmkaaGreat
