/- The law FnExactLinesOk: for every input it returns true, and each argument reads afterwards as it read before. No condition. -/
import Derived.Test.YtdnnffbbhijmkaaGreatRows
import Derived.Test.YtdnnffbbhijmkaaGreatQbu
set_option linter.unusedVariables false
set_option linter.unusedSimpArgs false
set_option maxHeartbeats 4000000
namespace Go.Proofs.YtdnnffbbhijmkaaGreat
open Go.ChangeShapes Go.WideShapes Go.ChangeAt Go.RowKit Am
set_option maxRecDepth 100000
theorem mD(w:World)(a0:kf)(f0:a0.fit)(v0:Value)(r0:RT (fun b=>b<w.heap.size) w [] [] (.agg a0.ac) v0)(a1:Int)(h1:R64 a1)(a2:aw)(h2:a2.ok)(a3:aw)(h3:a3.ok)(a4:Bool):
  Calls Tryz.prog 6 #[v0,.int .i64 a1,.agg #[.int .i64 a2.mode,.int .i64 a2.n],.agg #[.int .i64 a3.mode,.int .i64 a3.n],.bool a4] w fun e w'=>e= .returned (.bool true)∧Below w.heap.size w w':=
 Af (vs:=[v0,.int .i64 a1,.agg (aw.c a2),.agg (aw.c a3),.bool a4]) (kT a0 f0 a1 a2 a3 a4) rfl (jj (r0) (jj (CN _) (jj (CO rfl) (jj (CO rfl) (jj (CN _) (AX))))))
set_option maxRecDepth 100000 in
theorem lq(os:Os)(started:os.Started)(H:Type)(enc:TypeId×Value→H):
  ReturnsInHanded {} Tryz.checked os 6 .any (Rows.fnExactLinesOkSpec.pre6 enc Tryz.prog Tryz.f6 Rows.fnExactLinesOkRow.domain false) (Rows.fnExactLinesOkSpec.post enc Tryz.prog Tryz.f6 false true false false):=by
 refine returnsInHanded_of_change (C:=Tryz.checked) own started (by kernel_rfl) Tryz.func6
  (ChangeSpec.witness6 (enc:=enc) (C:=Tryz.checked) false ⟨#[], #[.agg #[.slice none 0 0],.int .i64 0,.agg #[.int .i64 0,.int .i64 0],.agg #[.int .i64 0,.int .i64 0],.bool false],[]⟩ 8 (by kernel_rfl) (by kernel_rfl) (by kernel_rfl) (by kernel_rfl)) ?_
 intro W base args ds gs before hval hW hcnd _
 have hpost:∀W',Below W.heap.size W W'→Rows.fnExactLinesOkSpec.post enc Tryz.prog Tryz.f6 false true false false W args (.bool true) W':=by
  intro W' hx
  refine BK qC (by kernel_rfl) rfl ?_ (t:=4) (by kernel_rfl) Tryz.underlying4 hW hx
  obtain⟨p,q,hA,hV,rfl,hfz,hnd⟩:=hW
  obtain⟨rfl,rfl⟩:=trodVars_none hV
  have hA1:DataW.TrodAll enc Tryz.prog W 0 (fun _=>true) true Tryz.f6.params.toList args.toList ds p:=hA
  rw [Tryz.params6]at hA1
  obtain⟨v0,vs0,d0,ds0,p0,q0,hargs,rfl,rfl,h0,r0⟩:=trodAll_cons hA1
  obtain⟨v1,vs1,d1,ds1,p1,q1,rfl,rfl,rfl,h1,r1⟩:=trodAll_cons r0
  obtain⟨v2,vs2,d2,ds2,p2,q2,rfl,rfl,rfl,h2,r2⟩:=trodAll_cons r1
  obtain⟨v3,vs3,d3,ds3,p3,q3,rfl,rfl,rfl,h3,r3⟩:=trodAll_cons r2
  obtain⟨v4,vs4,d4,ds4,p4,q4,rfl,rfl,rfl,h4,r4⟩:=trodAll_cons r3
  obtain⟨rfl,rfl,rfl⟩:=trodAll_nil r4
  rfl
 have hval':=hval
 obtain⟨p,q,hA,hV,rfl,hfz,hnd⟩:=hW
 have hA1:DataW.TrodAll enc Tryz.prog W 0 (fun _=>true) true Tryz.f6.params.toList args.toList ds p:=hA
 rw [Tryz.params6]at hA1
 obtain⟨v0,vs0,d0,ds0,p0,q0,hargs,rfl,rfl,h0,r0⟩:=trodAll_cons hA1
 obtain⟨v1,vs1,d1,ds1,p1,q1,rfl,rfl,rfl,h1,r1⟩:=trodAll_cons r0
 obtain⟨v2,vs2,d2,ds2,p2,q2,rfl,rfl,rfl,h2,r2⟩:=trodAll_cons r1
 obtain⟨v3,vs3,d3,ds3,p3,q3,rfl,rfl,rfl,h3,r3⟩:=trodAll_cons r2
 obtain⟨v4,vs4,d4,ds4,p4,q4,rfl,rfl,rfl,h4,r4⟩:=trodAll_cons r3
 obtain⟨rfl,rfl,rfl⟩:=trodAll_nil r4
 obtain rfl:args= #[v0,v1,v2,v3,v4]:=by cases args;simp_all
 rw [Tryz.params6]at hval'
 obtain⟨x0,t0,s0⟩:=wC qC 8 kf.sh (t:=24) (of_decide_eq_true (by kernel_rfl)) Tryz.underlying24 (by kernel_rfl) (hval' 0 24 v0 rfl rfl) h0
 obtain⟨a0,e0,f0⟩:=kf.of_ _ t0
 rw [e0]at s0
 obtain⟨a1,rfl,rfl,rfl,w1⟩:=open_int Tryz.underlying3 (hval' 1 3 v1 rfl rfl) h1
 obtain⟨g2,b2,k2,rfl⟩:=vy qC Tryz.underlying3 Tryz.underlying4 aw.ks (t:=26) (of_decide_eq_true (by kernel_rfl)) Tryz.underlying26 (by kernel_rfl) (hval' 2 26 v2 rfl rfl) h2
 obtain⟨g3,b3,k3,rfl⟩:=vy qC Tryz.underlying3 Tryz.underlying4 aw.ks (t:=26) (of_decide_eq_true (by kernel_rfl)) Tryz.underlying26 (by kernel_rfl) (hval' 3 26 v3 rfl rfl) h3
 obtain⟨a4,rfl,rfl,rfl⟩:=open_bool Tryz.underlying4 (hval' 4 4 v4 rfl rfl) h4
 exact(mD W a0 f0 v0 s0 a1 (qf w1) (aw.of g2 b2) (aw.ok_of g2 b2 k2) (aw.of g3 b3) (aw.ok_of g3 b3 k3) a4).mono fun e W'⟨he,hx⟩=>⟨_,he,hpost W' hx⟩
theorem oz:(Rows.fnExactLinesOkRow.shortTexts.isNone&&Tryz.pinned.checked.prog.stopsHeard&&Tryz.pinned.checked.prog.mayEnter)=true:=by kernel_rfl
theorem oy:(Rows.fnExactLinesOkRow.lifted==Tryz.pinned.checked.prog.liftsFinal)=true:=by kernel_rfl
theorem ox:(Tryz.pinned.checked.prog.make==some Rows.fnExactLinesOkRow.make)=true:=by kernel_rfl
theorem lr:joinedFacts Tryz.pinned.checked.prog 6 Tryz.f6 Rows.fnExactLinesOkSpec Rows.fnExactLinesOkRow=true:=by
 unfold joinedFacts
 have h1:=oz
 simp only [zqs]at h1
 rw [h1.1.1,h1.1.2,h1.2,oy,ox,show laidOutB Tryz.pinned.checked.prog=true from qC]
 show _=true
 kernel_rfl
theorem mE:Rows.fnExactLinesOkRow.holds Tryz.pinned (OpenSpec.ofChange Rows.fnExactLinesOkSpec):=
 OpenClaim.holds_of_wide 6 Tryz.f6 rfl rfl rfl rfl rfl rfl rfl ⟨rfl,rfl,rfl,rfl,rfl⟩ rfl rfl rfl rfl rfl (by kernel_rfl) Tryz.func6 lr
  (of_decide_eq_true (by kernel_rfl)) (by unfold Func.isWrapper;first|(rw [if_pos (by decide+kernel)];kernel_rfl)|(rw [if_neg (by decide+kernel)];exact⟨rfl,rfl⟩))
  (fun os started H enc _=>lq os started H enc)
theorem FnExactLinesOk_proved:Rows.FnExactLinesOkSaid:=mE
end Go.Proofs.YtdnnffbbhijmkaaGreat
