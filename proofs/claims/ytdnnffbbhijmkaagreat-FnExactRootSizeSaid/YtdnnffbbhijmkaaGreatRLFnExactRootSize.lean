/- The law FnExactRootSize: for every input it returns true, and each argument reads afterwards as it read before. No condition. -/
import Derived.Test.YtdnnffbbhijmkaaGreatRows
import Derived.Test.YtdnnffbbhijmkaaGreatRbv
set_option linter.unusedVariables false
set_option linter.unusedSimpArgs false
set_option maxHeartbeats 4000000
namespace Go.Proofs.YtdnnffbbhijmkaaGreat
open Go.ChangeShapes Go.WideShapes Go.ChangeAt Go.RowKit Am
set_option maxRecDepth 100000
theorem lD(w:World)(a0:jX)(f0:a0.fit)(v0:Value)(r0:RT (fun b=>b<w.heap.size) w [] [] (.agg a0.ac) v0)(a1:Int)(h1:R64 a1)(a2:Int)(h2:R64 a2)(a3:Int)(h3:R64 a3)(a4:Bool):
  Calls Tryz.prog 5 #[v0,.int .i64 a1,.int .i64 a2,.int .i64 a3,.bool a4] w fun e w'=>e= .returned (.bool true)∧Below w.heap.size w w':=
 zK (vs:=[v0,.int .i64 a1,.int .i64 a2,.int .i64 a3,.bool a4]) (jV a0 f0 a1 a2 a3 a4) rfl (jd (r0) (jd (wZ _) (jd (wZ _) (jd (wZ _) (jd (wZ _) (Ai))))))
set_option maxRecDepth 100000 in
theorem jY(os:Os)(started:os.Started)(H:Type)(enc:TypeId×Value→H):
  ReturnsInHanded {} Tryz.checked os 5 .any (Rows.fnExactRootSizeSpec.pre6 enc Tryz.prog Tryz.f5 Rows.fnExactRootSizeRow.domain false) (Rows.fnExactRootSizeSpec.post enc Tryz.prog Tryz.f5 false true false false):=by
 refine returnsInHanded_of_change (C:=Tryz.checked) own started (by kernel_rfl) Tryz.func5
  (ChangeSpec.witness6 (enc:=enc) (C:=Tryz.checked) false ⟨#[], #[.agg #[.slice none 0 0],.int .i64 0,.int .i64 0,.int .i64 0,.bool false],[]⟩ 8 (by kernel_rfl) (by kernel_rfl) (by kernel_rfl) (by kernel_rfl)) ?_
 intro W base args ds gs before hval hW hcnd _
 have hpost:∀W',Below W.heap.size W W'→Rows.fnExactRootSizeSpec.post enc Tryz.prog Tryz.f5 false true false false W args (.bool true) W':=by
  intro W' hx
  refine Ba we (by kernel_rfl) rfl ?_ (t:=4) (by kernel_rfl) Tryz.underlying4 hW hx
  obtain⟨p,q,hA,hV,rfl,hfz,hnd⟩:=hW
  obtain⟨rfl,rfl⟩:=trodVars_none hV
  have hA1:DataW.TrodAll enc Tryz.prog W 0 (fun _=>true) true Tryz.f5.params.toList args.toList ds p:=hA
  rw [Tryz.params5]at hA1
  obtain⟨v0,vs0,d0,ds0,p0,q0,hargs,rfl,rfl,h0,r0⟩:=trodAll_cons hA1
  obtain⟨v1,vs1,d1,ds1,p1,q1,rfl,rfl,rfl,h1,r1⟩:=trodAll_cons r0
  obtain⟨v2,vs2,d2,ds2,p2,q2,rfl,rfl,rfl,h2,r2⟩:=trodAll_cons r1
  obtain⟨v3,vs3,d3,ds3,p3,q3,rfl,rfl,rfl,h3,r3⟩:=trodAll_cons r2
  obtain⟨v4,vs4,d4,ds4,p4,q4,rfl,rfl,rfl,h4,r4⟩:=trodAll_cons r3
  obtain⟨rfl,rfl,rfl⟩:=trodAll_nil r4
  rfl
 have hval':=hval
 obtain⟨p,q,hA,hV,rfl,hfz,hnd⟩:=hW
 have hA1:DataW.TrodAll enc Tryz.prog W 0 (fun _=>true) true Tryz.f5.params.toList args.toList ds p:=hA
 rw [Tryz.params5]at hA1
 obtain⟨v0,vs0,d0,ds0,p0,q0,hargs,rfl,rfl,h0,r0⟩:=trodAll_cons hA1
 obtain⟨v1,vs1,d1,ds1,p1,q1,rfl,rfl,rfl,h1,r1⟩:=trodAll_cons r0
 obtain⟨v2,vs2,d2,ds2,p2,q2,rfl,rfl,rfl,h2,r2⟩:=trodAll_cons r1
 obtain⟨v3,vs3,d3,ds3,p3,q3,rfl,rfl,rfl,h3,r3⟩:=trodAll_cons r2
 obtain⟨v4,vs4,d4,ds4,p4,q4,rfl,rfl,rfl,h4,r4⟩:=trodAll_cons r3
 obtain⟨rfl,rfl,rfl⟩:=trodAll_nil r4
 obtain rfl:args= #[v0,v1,v2,v3,v4]:=by cases args;simp_all
 rw [Tryz.params5]at hval'
 obtain⟨x0,t0,s0⟩:=vY we 8 jX.sh (t:=24) (of_decide_eq_true (by kernel_rfl)) Tryz.underlying24 (by kernel_rfl) (hval' 0 24 v0 rfl rfl) h0
 obtain⟨a0,e0,f0⟩:=jX.of_ _ t0
 rw [e0]at s0
 obtain⟨a1,rfl,rfl,rfl,w1⟩:=open_int Tryz.underlying3 (hval' 1 3 v1 rfl rfl) h1
 obtain⟨a2,rfl,rfl,rfl,w2⟩:=open_int Tryz.underlying3 (hval' 2 3 v2 rfl rfl) h2
 obtain⟨a3,rfl,rfl,rfl,w3⟩:=open_int Tryz.underlying3 (hval' 3 3 v3 rfl rfl) h3
 obtain⟨a4,rfl,rfl,rfl⟩:=open_bool Tryz.underlying4 (hval' 4 4 v4 rfl rfl) h4
 exact(lD W a0 f0 v0 s0 a1 (mP w1) a2 (mP w2) a3 (mP w3) a4).mono fun e W'⟨he,hx⟩=>⟨_,he,hpost W' hx⟩
theorem nx:(Rows.fnExactRootSizeRow.shortTexts.isNone&&Tryz.pinned.checked.prog.stopsHeard&&Tryz.pinned.checked.prog.mayEnter)=true:=by kernel_rfl
theorem nw:(Rows.fnExactRootSizeRow.lifted==Tryz.pinned.checked.prog.liftsFinal)=true:=by kernel_rfl
theorem nv:(Tryz.pinned.checked.prog.make==some Rows.fnExactRootSizeRow.make)=true:=by kernel_rfl
theorem jZ:joinedFacts Tryz.pinned.checked.prog 5 Tryz.f5 Rows.fnExactRootSizeSpec Rows.fnExactRootSizeRow=true:=by
 unfold joinedFacts
 have h1:=nx
 simp only [zqs]at h1
 rw [h1.1.1,h1.1.2,h1.2,nw,nv,show laidOutB Tryz.pinned.checked.prog=true from we]
 show _=true
 kernel_rfl
theorem lG:Rows.fnExactRootSizeRow.holds Tryz.pinned (OpenSpec.ofChange Rows.fnExactRootSizeSpec):=
 OpenClaim.holds_of_wide 5 Tryz.f5 rfl rfl rfl rfl rfl rfl rfl ⟨rfl,rfl,rfl,rfl,rfl⟩ rfl rfl rfl rfl rfl (by kernel_rfl) Tryz.func5 jZ
  (of_decide_eq_true (by kernel_rfl)) (by unfold Func.isWrapper;first|(rw [if_pos (by decide+kernel)];kernel_rfl)|(rw [if_neg (by decide+kernel)];exact⟨rfl,rfl⟩))
  (fun os started H enc _=>jY os started H enc)
theorem FnExactRootSize_proved:Rows.FnExactRootSizeSaid:=lG
end Go.Proofs.YtdnnffbbhijmkaaGreat
