/- The law FnExactApartFrame: for every input it returns true, and each argument reads afterwards as it read before. No condition. -/
import Derived.Test.YtckchgoblpgpbaaGreatRows
import Derived.Test.YtckchgoblpgpbaaGreatJ5bv
set_option linter.unusedVariables false
set_option linter.unusedSimpArgs false
set_option maxHeartbeats 4000000
namespace Go.Proofs.YtckchgoblpgpbaaGreat
open Go.ChangeShapes Go.WideShapes Go.ChangeAt Go.RowKit Am
set_option maxRecDepth 100000
theorem kt(w:World)(a0:kr)(f0:a0.fit)(v0:Value)(r0:RT (fun b=>b<w.heap.size) w [] [] (.agg a0.ac) v0)(a1:Int)(h1:R64 a1)(a2:Int)(h2:R64 a2)(a3:Int)(h3:R64 a3)(a4:Int)(h4:R64 a4)(a5:Bool):
  Calls Tryz.prog 4 #[v0,.int .i64 a1,.int .i64 a2,.int .i64 a3,.int .i64 a4,.bool a5] w fun e w'=>e= .returned (.bool true)/\Below w.heap.size w w':=
 AF (vs:=[v0,.int .i64 a1,.int .i64 a2,.int .i64 a3,.int .i64 a4,.bool a5]) (jn a0 f0 a1 a2 a3 a4 a5) rfl (ij (r0) (ij (vx _) (ij (vx _) (ij (vx _) (ij (vx _) (ij (vx _) (Bp)))))))
set_option maxRecDepth 100000 in
theorem jv(os:Os)(started:os.Started)(H:Type)(enc:TypeId×Value->H):
  ReturnsInHanded {} Tryz.checked os 4 .any (Rows.fnExactApartFrameSpec.pre6 enc Tryz.prog Tryz.f4 Rows.fnExactApartFrameRow.domain false) (Rows.fnExactApartFrameSpec.post enc Tryz.prog Tryz.f4 false true false false):=by
 refine returnsInHanded_of_change (C:=Tryz.checked) own started (by kernel_rfl) Tryz.func4
  (ChangeSpec.witness6 (enc:=enc) (C:=Tryz.checked) false ⟨#[], #[.agg #[.slice none 0 0],.int .i64 0,.int .i64 0,.int .i64 0,.int .i64 0,.bool false],[]⟩ 8 (by kernel_rfl) (by kernel_rfl) (by kernel_rfl) (by kernel_rfl)) ?_
 intro W base hb ds gs before hg hW hn _
 have hf:∀W',Below W.heap.size W W'->Rows.fnExactApartFrameSpec.post enc Tryz.prog Tryz.f4 false true false false W hb (.bool true) W':=by
  intro W' hx
  refine Cf w8 (by kernel_rfl) rfl ?_ (t:=4) (by kernel_rfl) Tryz.underlying4 hW hx
  obtain⟨p,q,hA,hV,rfl,ho,hp⟩:=hW
  obtain⟨rfl,rfl⟩:=trodVars_none hV
  have hc:DataW.TrodAll enc Tryz.prog W 0 (fun _=>true) true Tryz.f4.params.toList hb.toList ds p:=hA
  rw [Tryz.params4]at hc
  obtain⟨v0,hq,d0,hh,p0,q0,hd,rfl,rfl,h0,r0⟩:=trodAll_cons hc
  obtain⟨v1,hr,d1,hi,p1,q1,rfl,rfl,rfl,h1,r1⟩:=trodAll_cons r0
  obtain⟨v2,hs,d2,hj,p2,q2,rfl,rfl,rfl,h2,r2⟩:=trodAll_cons r1
  obtain⟨v3,ht,d3,hk,p3,q3,rfl,rfl,rfl,h3,r3⟩:=trodAll_cons r2
  obtain⟨v4,hu,d4,hl,p4,q4,rfl,rfl,rfl,h4,r4⟩:=trodAll_cons r3
  obtain⟨v5,hv,d5,hm,p5,q5,rfl,rfl,rfl,h5,r5⟩:=trodAll_cons r4
  obtain⟨rfl,rfl,rfl⟩:=trodAll_nil r5
  rfl
 have ha:=hg
 obtain⟨p,q,hA,hV,rfl,ho,hp⟩:=hW
 have hc:DataW.TrodAll enc Tryz.prog W 0 (fun _=>true) true Tryz.f4.params.toList hb.toList ds p:=hA
 rw [Tryz.params4]at hc
 obtain⟨v0,hq,d0,hh,p0,q0,hd,rfl,rfl,h0,r0⟩:=trodAll_cons hc
 obtain⟨v1,hr,d1,hi,p1,q1,rfl,rfl,rfl,h1,r1⟩:=trodAll_cons r0
 obtain⟨v2,hs,d2,hj,p2,q2,rfl,rfl,rfl,h2,r2⟩:=trodAll_cons r1
 obtain⟨v3,ht,d3,hk,p3,q3,rfl,rfl,rfl,h3,r3⟩:=trodAll_cons r2
 obtain⟨v4,hu,d4,hl,p4,q4,rfl,rfl,rfl,h4,r4⟩:=trodAll_cons r3
 obtain⟨v5,hv,d5,hm,p5,q5,rfl,rfl,rfl,h5,r5⟩:=trodAll_cons r4
 obtain⟨rfl,rfl,rfl⟩:=trodAll_nil r5
 obtain rfl:hb= #[v0,v1,v2,v3,v4,v5]:=by cases hb;simp_all
 rw [Tryz.params4]at ha
 obtain⟨x0,t0,s0⟩:=wU w8 8 kr.sh (t:=48) (of_decide_eq_true (by kernel_rfl)) Tryz.underlying48 (by kernel_rfl) (ha 0 48 v0 rfl rfl) h0
 obtain⟨a0,e0,f0⟩:=kr.of_ _ t0
 rw [e0]at s0
 obtain⟨a1,rfl,rfl,rfl,w1⟩:=open_int Tryz.underlying3 (ha 1 3 v1 rfl rfl) h1
 obtain⟨a2,rfl,rfl,rfl,w2⟩:=open_int Tryz.underlying3 (ha 2 3 v2 rfl rfl) h2
 obtain⟨a3,rfl,rfl,rfl,w3⟩:=open_int Tryz.underlying3 (ha 3 3 v3 rfl rfl) h3
 obtain⟨a4,rfl,rfl,rfl,w4⟩:=open_int Tryz.underlying3 (ha 4 3 v4 rfl rfl) h4
 obtain⟨a5,rfl,rfl,rfl⟩:=open_bool Tryz.underlying4 (ha 5 4 v5 rfl rfl) h5
 exact(kt W a0 f0 v0 s0 a1 (kT w1) a2 (kT w2) a3 (kT w3) a4 (kT w4) a5).mono fun e W'⟨he,hx⟩=>⟨_,he,hf W' hx⟩
theorem me:(Rows.fnExactApartFrameRow.shortTexts.isNone&&Tryz.pinned.checked.prog.stopsHeard&&Tryz.pinned.checked.prog.mayEnter)=true:=by kernel_rfl
theorem mc:(Rows.fnExactApartFrameRow.lifted==Tryz.pinned.checked.prog.liftsFinal)=true:=by kernel_rfl
theorem ma:(Tryz.pinned.checked.prog.make==some Rows.fnExactApartFrameRow.make)=true:=by kernel_rfl
theorem jx:joinedFacts Tryz.pinned.checked.prog 4 Tryz.f4 Rows.fnExactApartFrameSpec Rows.fnExactApartFrameRow=true:=by
 unfold joinedFacts
 have h1:=me
 simp only [zqs]at h1
 rw [h1.1.1,h1.1.2,h1.2,mc,ma,show laidOutB Tryz.pinned.checked.prog=true from w8]
 show _=true
 kernel_rfl
theorem kv:Rows.fnExactApartFrameRow.holds Tryz.pinned (OpenSpec.ofChange Rows.fnExactApartFrameSpec):=
 OpenClaim.holds_of_wide 4 Tryz.f4 rfl rfl rfl rfl rfl rfl rfl ⟨rfl,rfl,rfl,rfl,rfl⟩ rfl rfl rfl rfl rfl (by kernel_rfl) Tryz.func4 jx
  (of_decide_eq_true (by kernel_rfl)) (by unfold Func.isWrapper;first|(rw [if_pos (by decide+kernel)];kernel_rfl)|(rw [if_neg (by decide+kernel)];exact⟨rfl,rfl⟩))
  (fun os ha H enc _=>jv os ha H enc)
theorem FnExactApartFrame_proved:Rows.FnExactApartFrameSaid:=kv
end Go.Proofs.YtckchgoblpgpbaaGreat
