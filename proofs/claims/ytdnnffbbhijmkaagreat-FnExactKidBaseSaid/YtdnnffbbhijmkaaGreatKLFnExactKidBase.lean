/- The law FnExactKidBase: for every input it returns true, and each argument reads afterwards as it read before. No condition. -/
import Derived.Test.YtdnnffbbhijmkaaGreatRows
import Derived.Test.YtdnnffbbhijmkaaGreatKbt
set_option linter.unusedVariables false
set_option linter.unusedSimpArgs false
set_option maxHeartbeats 4000000
namespace Go.Proofs.YtdnnffbbhijmkaaGreat
open Go.ChangeShapes Go.WideShapes Go.ChangeAt Go.RowKit Am
set_option maxRecDepth 100000
theorem mo(w:World)(a0:jW)(f0:a0.fit)(v0:Value)(r0:RT (fun b=>b<w.heap.size) w [] [] (.agg a0.ac) v0)(a1:Int)(h1:R64 a1)(a2:ay)(h2:a2.ok)(a3:ay)(h3:a3.ok)(a4:Bool)(a5:Int)(h5:R64 a5):
  Calls Tryz.prog 4 #[v0,.int .i64 a1,.agg #[.int .i64 a2.mode,.int .i64 a2.n],.agg #[.int .i64 a3.mode,.int .i64 a3.n],.bool a4,.int .i64 a5] w fun e w'=>e= .returned (.bool true)∧Below w.heap.size w w':=
 zU (vs:=[v0,.int .i64 a1,.agg (ay.c a2),.agg (ay.c a3),.bool a4,.int .i64 a5]) (kC a0 f0 a1 a2 a3 a4 a5) rfl (gX (r0) (gX (zh _) (gX (Cw rfl) (gX (Cw rfl) (gX (zh _) (gX (zh _) (Ay)))))))
set_option maxRecDepth 100000 in
theorem k9(os:Os)(started:os.Started)(H:Type)(enc:TypeId×Value→H):
  ReturnsInHanded {} Tryz.checked os 4 .any (Rows.fnExactKidBaseSpec.pre6 enc Tryz.prog Tryz.f4 Rows.fnExactKidBaseRow.domain false) (Rows.fnExactKidBaseSpec.post enc Tryz.prog Tryz.f4 false true false false):=by
 refine returnsInHanded_of_change (C:=Tryz.checked) own started (by kernel_rfl) Tryz.func4
  (ChangeSpec.witness6 (enc:=enc) (C:=Tryz.checked) false ⟨#[], #[.agg #[.slice none 0 0],.int .i64 0,.agg #[.int .i64 0,.int .i64 0],.agg #[.int .i64 0,.int .i64 0],.bool false,.int .i64 0],[]⟩ 8 (by kernel_rfl) (by kernel_rfl) (by kernel_rfl) (by kernel_rfl)) ?_
 intro W base args ds gs before hval hW hcnd _
 have hpost:∀W',Below W.heap.size W W'→Rows.fnExactKidBaseSpec.post enc Tryz.prog Tryz.f4 false true false false W args (.bool true) W':=by
  intro W' hx
  refine Bq ql (by kernel_rfl) rfl ?_ (t:=4) (by kernel_rfl) Tryz.underlying4 hW hx
  obtain⟨p,q,hA,hV,rfl,hfz,hnd⟩:=hW
  obtain⟨rfl,rfl⟩:=trodVars_none hV
  have hA1:DataW.TrodAll enc Tryz.prog W 0 (fun _=>true) true Tryz.f4.params.toList args.toList ds p:=hA
  rw [Tryz.params4]at hA1
  obtain⟨v0,vs0,d0,ds0,p0,q0,hargs,rfl,rfl,h0,r0⟩:=trodAll_cons hA1
  obtain⟨v1,vs1,d1,ds1,p1,q1,rfl,rfl,rfl,h1,r1⟩:=trodAll_cons r0
  obtain⟨v2,vs2,d2,ds2,p2,q2,rfl,rfl,rfl,h2,r2⟩:=trodAll_cons r1
  obtain⟨v3,vs3,d3,ds3,p3,q3,rfl,rfl,rfl,h3,r3⟩:=trodAll_cons r2
  obtain⟨v4,vs4,d4,ds4,p4,q4,rfl,rfl,rfl,h4,r4⟩:=trodAll_cons r3
  obtain⟨v5,vs5,d5,ds5,p5,q5,rfl,rfl,rfl,h5,r5⟩:=trodAll_cons r4
  obtain⟨rfl,rfl,rfl⟩:=trodAll_nil r5
  rfl
 have hval':=hval
 obtain⟨p,q,hA,hV,rfl,hfz,hnd⟩:=hW
 have hA1:DataW.TrodAll enc Tryz.prog W 0 (fun _=>true) true Tryz.f4.params.toList args.toList ds p:=hA
 rw [Tryz.params4]at hA1
 obtain⟨v0,vs0,d0,ds0,p0,q0,hargs,rfl,rfl,h0,r0⟩:=trodAll_cons hA1
 obtain⟨v1,vs1,d1,ds1,p1,q1,rfl,rfl,rfl,h1,r1⟩:=trodAll_cons r0
 obtain⟨v2,vs2,d2,ds2,p2,q2,rfl,rfl,rfl,h2,r2⟩:=trodAll_cons r1
 obtain⟨v3,vs3,d3,ds3,p3,q3,rfl,rfl,rfl,h3,r3⟩:=trodAll_cons r2
 obtain⟨v4,vs4,d4,ds4,p4,q4,rfl,rfl,rfl,h4,r4⟩:=trodAll_cons r3
 obtain⟨v5,vs5,d5,ds5,p5,q5,rfl,rfl,rfl,h5,r5⟩:=trodAll_cons r4
 obtain⟨rfl,rfl,rfl⟩:=trodAll_nil r5
 obtain rfl:args= #[v0,v1,v2,v3,v4,v5]:=by cases args;simp_all
 rw [Tryz.params4]at hval'
 obtain⟨x0,t0,s0⟩:=wh ql 8 jW.sh (t:=24) (of_decide_eq_true (by kernel_rfl)) Tryz.underlying24 (by kernel_rfl) (hval' 0 24 v0 rfl rfl) h0
 obtain⟨a0,e0,f0⟩:=jW.of_ _ t0
 rw [e0]at s0
 obtain⟨a1,rfl,rfl,rfl,w1⟩:=open_int Tryz.underlying3 (hval' 1 3 v1 rfl rfl) h1
 obtain⟨g2,b2,k2,rfl⟩:=vd ql Tryz.underlying3 Tryz.underlying4 ay.ks (t:=26) (of_decide_eq_true (by kernel_rfl)) Tryz.underlying26 (by kernel_rfl) (hval' 2 26 v2 rfl rfl) h2
 obtain⟨g3,b3,k3,rfl⟩:=vd ql Tryz.underlying3 Tryz.underlying4 ay.ks (t:=26) (of_decide_eq_true (by kernel_rfl)) Tryz.underlying26 (by kernel_rfl) (hval' 3 26 v3 rfl rfl) h3
 obtain⟨a4,rfl,rfl,rfl⟩:=open_bool Tryz.underlying4 (hval' 4 4 v4 rfl rfl) h4
 obtain⟨a5,rfl,rfl,rfl,w5⟩:=open_int Tryz.underlying3 (hval' 5 3 v5 rfl rfl) h5
 exact(mo W a0 f0 v0 s0 a1 (mX w1) (ay.of g2 b2) (ay.ok_of g2 b2 k2) (ay.of g3 b3) (ay.ok_of g3 b3 k3) a4 a5 (mX w5)).mono fun e W'⟨he,hx⟩=>⟨_,he,hpost W' hx⟩
theorem oc:(Rows.fnExactKidBaseRow.shortTexts.isNone&&Tryz.pinned.checked.prog.stopsHeard&&Tryz.pinned.checked.prog.mayEnter)=true:=by kernel_rfl
theorem n9:(Rows.fnExactKidBaseRow.lifted==Tryz.pinned.checked.prog.liftsFinal)=true:=by kernel_rfl
theorem n7:(Tryz.pinned.checked.prog.make==some Rows.fnExactKidBaseRow.make)=true:=by kernel_rfl
theorem ld:joinedFacts Tryz.pinned.checked.prog 4 Tryz.f4 Rows.fnExactKidBaseSpec Rows.fnExactKidBaseRow=true:=by
 unfold joinedFacts
 have h1:=oc
 simp only [zqs]at h1
 rw [h1.1.1,h1.1.2,h1.2,n9,n7,show laidOutB Tryz.pinned.checked.prog=true from ql]
 show _=true
 kernel_rfl
theorem mq:Rows.fnExactKidBaseRow.holds Tryz.pinned (OpenSpec.ofChange Rows.fnExactKidBaseSpec):=
 OpenClaim.holds_of_wide 4 Tryz.f4 rfl rfl rfl rfl rfl rfl rfl ⟨rfl,rfl,rfl,rfl,rfl⟩ rfl rfl rfl rfl rfl (by kernel_rfl) Tryz.func4 ld
  (of_decide_eq_true (by kernel_rfl)) (by unfold Func.isWrapper;first|(rw [if_pos (by decide+kernel)];kernel_rfl)|(rw [if_neg (by decide+kernel)];exact⟨rfl,rfl⟩))
  (fun os started H enc _=>k9 os started H enc)
theorem FnExactKidBase_proved:Rows.FnExactKidBaseSaid:=mq
end Go.Proofs.YtdnnffbbhijmkaaGreat
