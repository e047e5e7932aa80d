/- The law FnExactFramesUnder: for every input it returns true, and each argument reads afterwards as it read before. No condition. -/
import Derived.Test.YtckchgoblpgpbaaGreatRows
import Derived.Test.YtckchgoblpgpbaaGreatJ8bb
set_option linter.unusedVariables false
set_option linter.unusedSimpArgs false
set_option maxHeartbeats 1600000
namespace Go.Proofs.YtckchgoblpgpbaaGreat
open Go.ChangeShapes Go.WideShapes Go.ChangeAt Go.RowKit Am
set_option maxRecDepth 100000
theorem kP(w:World)(a0:i8)(f0:a0.fit)(v0:Value)(r0:RT (fun b=>b<w.heap.size) w [] [] (.agg a0.ac) v0)(a1:Int)(h1:R64 a1)(a2:Int)(h2:R64 a2)(a3:Int)(h3:R64 a3)(a4:Bool):
  Calls Tryz.prog 6 #[v0,.int .i64 a1,.int .i64 a2,.int .i64 a3,.bool a4] w fun e w'=>e= .returned (.bool true)/\Below w.heap.size w w':=jy w a0 f0 v0 r0 a1 a2 a3 a4
set_option maxRecDepth 100000 in
theorem jE(os:Os)(started:os.Started)(H:Type)(enc:TypeId×Value->H):
  ReturnsInHanded {} Tryz.checked os 6 .any (Rows.fnExactFramesUnderSpec.pre6 enc Tryz.prog Tryz.f6 Rows.fnExactFramesUnderRow.domain false) (Rows.fnExactFramesUnderSpec.post enc Tryz.prog Tryz.f6 false true false false):=by
 refine returnsInHanded_of_change (C:=Tryz.checked) own started (by kernel_rfl) Tryz.func6
  (ChangeSpec.witness6 (enc:=enc) (C:=Tryz.checked) false ⟨#[], #[.agg #[.slice none 0 0],.int .i64 0,.int .i64 0,.int .i64 0,.bool false],[]⟩ 8 (by kernel_rfl) (by kernel_rfl) (by kernel_rfl) (by kernel_rfl)) ?_
 intro W base args ds gs before hf hW hl _
 have hd:∀W',Below W.heap.size W W'->Rows.fnExactFramesUnderSpec.post enc Tryz.prog Tryz.f6 false true false false W args (.bool true) W':=by
  intro W' hx
  refine Fb zq (by kernel_rfl) rfl ?_ (t:=4) (by kernel_rfl) Tryz.underlying4 hW hx
  obtain⟨p,q,hA,hV,rfl,hm,hn⟩:=hW
  obtain⟨rfl,rfl⟩:=trodVars_none hV
  have hb:DataW.TrodAll enc Tryz.prog W 0 (fun _=>true) true Tryz.f6.params.toList args.toList ds p:=hA
  rw [Tryz.params6]at hb
  obtain⟨v0,ho,d0,hg,p0,q0,hc,rfl,rfl,h0,r0⟩:=trodAll_cons hb
  obtain⟨v1,hp,d1,hh,p1,q1,rfl,rfl,rfl,h1,r1⟩:=trodAll_cons r0
  obtain⟨v2,hq,d2,hi,p2,q2,rfl,rfl,rfl,h2,r2⟩:=trodAll_cons r1
  obtain⟨v3,hr,d3,hj,p3,q3,rfl,rfl,rfl,h3,r3⟩:=trodAll_cons r2
  obtain⟨v4,hs,d4,hk,p4,q4,rfl,rfl,rfl,h4,r4⟩:=trodAll_cons r3
  obtain⟨rfl,rfl,rfl⟩:=trodAll_nil r4
  rfl
 have ha:=hf
 obtain⟨p,q,hA,hV,rfl,hm,hn⟩:=hW
 have hb:DataW.TrodAll enc Tryz.prog W 0 (fun _=>true) true Tryz.f6.params.toList args.toList ds p:=hA
 rw [Tryz.params6]at hb
 obtain⟨v0,ho,d0,hg,p0,q0,hc,rfl,rfl,h0,r0⟩:=trodAll_cons hb
 obtain⟨v1,hp,d1,hh,p1,q1,rfl,rfl,rfl,h1,r1⟩:=trodAll_cons r0
 obtain⟨v2,hq,d2,hi,p2,q2,rfl,rfl,rfl,h2,r2⟩:=trodAll_cons r1
 obtain⟨v3,hr,d3,hj,p3,q3,rfl,rfl,rfl,h3,r3⟩:=trodAll_cons r2
 obtain⟨v4,hs,d4,hk,p4,q4,rfl,rfl,rfl,h4,r4⟩:=trodAll_cons r3
 obtain⟨rfl,rfl,rfl⟩:=trodAll_nil r4
 obtain rfl:args= #[v0,v1,v2,v3,v4]:=by cases args;simp_all
 rw [Tryz.params6]at ha
 obtain⟨x0,t0,s0⟩:=zd zq 8 i8.sh (t:=48) (of_decide_eq_true (by kernel_rfl)) Tryz.underlying48 (by kernel_rfl) (ha 0 48 v0 rfl rfl) h0
 obtain⟨a0,e0,f0⟩:=i8.of_ _ t0
 rw [e0]at s0
 obtain⟨a1,rfl,rfl,rfl,w1⟩:=open_int Tryz.underlying3 (ha 1 3 v1 rfl rfl) h1
 obtain⟨a2,rfl,rfl,rfl,w2⟩:=open_int Tryz.underlying3 (ha 2 3 v2 rfl rfl) h2
 obtain⟨a3,rfl,rfl,rfl,w3⟩:=open_int Tryz.underlying3 (ha 3 3 v3 rfl rfl) h3
 obtain⟨a4,rfl,rfl,rfl⟩:=open_bool Tryz.underlying4 (ha 4 4 v4 rfl rfl) h4
 exact(kP W a0 f0 v0 s0 a1 (om w1) a2 (om w2) a3 (om w3) a4).mono fun e W'⟨he,hx⟩=>⟨_,he,hd W' hx⟩
theorem mL:(Rows.fnExactFramesUnderRow.shortTexts.isNone&&Tryz.pinned.checked.prog.stopsHeard&&Tryz.pinned.checked.prog.mayEnter)=true:=by kernel_rfl
theorem mK:(Rows.fnExactFramesUnderRow.lifted==Tryz.pinned.checked.prog.liftsFinal)=true:=by kernel_rfl
theorem mJ:(Tryz.pinned.checked.prog.make==some Rows.fnExactFramesUnderRow.make)=true:=by kernel_rfl
theorem jF:joinedFacts Tryz.pinned.checked.prog 6 Tryz.f6 Rows.fnExactFramesUnderSpec Rows.fnExactFramesUnderRow=true:=by
 unfold joinedFacts
 have h1:=mL
 simp only [zqs]at h1
 rw [h1.1.1,h1.1.2,h1.2,mK,mJ,show laidOutB Tryz.pinned.checked.prog=true from zq]
 show _=true
 kernel_rfl
theorem kT:Rows.fnExactFramesUnderRow.holds Tryz.pinned (OpenSpec.ofChange Rows.fnExactFramesUnderSpec):=
 OpenClaim.holds_of_wide 6 Tryz.f6 rfl rfl rfl rfl rfl rfl rfl ⟨rfl,rfl,rfl,rfl,rfl⟩ rfl rfl rfl rfl rfl (by kernel_rfl) Tryz.func6 jF
  (of_decide_eq_true (by kernel_rfl)) (by unfold Func.isWrapper;first|(rw [if_pos (by decide+kernel)];kernel_rfl)|(rw [if_neg (by decide+kernel)];exact⟨rfl,rfl⟩))
  (fun os ha H enc _=>jE os ha H enc)
theorem FnExactFramesUnder_proved:Rows.FnExactFramesUnderSaid:=kT
end Go.Proofs.YtckchgoblpgpbaaGreat
