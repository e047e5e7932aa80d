/- The law FnNested: for every input it returns true, and each argument reads afterwards as it read before. No condition. -/
import Derived.Test.YtckchgoblpgpbaaGreatRows
import Derived.Test.YtckchgoblpgpbaaGreatJ6bk
set_option linter.unusedVariables false
set_option linter.unusedSimpArgs false
set_option maxHeartbeats 4000000
namespace Go.Proofs.YtckchgoblpgpbaaGreat
open Go.ChangeShapes Go.WideShapes Go.ChangeAt Go.RowKit Am
set_option maxRecDepth 100000
theorem qE(w:World)(a0:List Int)(v0:Value)(r0:BT 1 qy w v0 a0):
  Calls Tryz.prog 3 #[v0] w fun e w'=>e= .returned (.bool true)/\Below w.heap.size w w':=
 wH (vs:=[v0]) (m9 a0 (BT.len r0)) rfl (uZ (we r0 (by decide) (fun _=>rfl) (fun _=>rfl)) (xg))
set_option maxRecDepth 100000 in
theorem nK(os:Os)(started:os.Started)(H:Type)(enc:TypeId×Value->H):
  ReturnsInHanded {} Tryz.checked os 3 .any (Rows.fnNestedSpec.pre6 enc Tryz.prog Tryz.f3 Rows.fnNestedRow.domain false) (Rows.fnNestedSpec.post enc Tryz.prog Tryz.f3 false true false false):=by
 refine returnsInHanded_of_change (C:=Tryz.checked) own started (by kernel_rfl) Tryz.func3
  (ChangeSpec.witness6 (enc:=enc) (C:=Tryz.checked) false ⟨#[], #[.slice none 0 0],[]⟩ 8 (by kernel_rfl) (by kernel_rfl) (by kernel_rfl) (by kernel_rfl)) ?_
 intro W base ha ds gs before hg hW hi _
 have hf:∀W',Below W.heap.size W W'->Rows.fnNestedSpec.post enc Tryz.prog Tryz.f3 false true false false W ha (.bool true) W':=by
  intro W' hx
  refine ye sj (by kernel_rfl) rfl ?_ (t:=4) (by kernel_rfl) Tryz.underlying4 hW hx
  obtain⟨p,q,hA,hV,rfl,hj,hk⟩:=hW
  obtain⟨rfl,rfl⟩:=trodVars_none hV
  have hc:DataW.TrodAll enc Tryz.prog W 0 (fun _=>true) true Tryz.f3.params.toList ha.toList ds p:=hA
  rw [Tryz.params3]at hc
  obtain⟨v0,hl,d0,hh,p0,q0,hd,rfl,rfl,h0,r0⟩:=trodAll_cons hc
  obtain⟨rfl,rfl,rfl⟩:=trodAll_nil r0
  rfl
 have hb:=hg
 obtain⟨p,q,hA,hV,rfl,hj,hk⟩:=hW
 have hc:DataW.TrodAll enc Tryz.prog W 0 (fun _=>true) true Tryz.f3.params.toList ha.toList ds p:=hA
 rw [Tryz.params3]at hc
 obtain⟨v0,hl,d0,hh,p0,q0,hd,rfl,rfl,h0,r0⟩:=trodAll_cons hc
 obtain⟨rfl,rfl,rfl⟩:=trodAll_nil r0
 obtain rfl:ha= #[v0]:=by cases ha;simp_all
 rw [Tryz.params3]at hb
 obtain⟨a0,s0⟩:=uF sj Tryz.underlying5 (of_decide_eq_true (by kernel_rfl)) Tryz.underlying22 (by kernel_rfl) (by kernel_rfl) h0 (hb 0 22 v0 rfl rfl)
 exact(qE W a0 v0 s0).mono fun e W'⟨he,hx⟩=>⟨_,he,hf W' hx⟩
theorem sL:(Rows.fnNestedRow.shortTexts.isNone&&Tryz.pinned.checked.prog.stopsHeard&&Tryz.pinned.checked.prog.mayEnter)=true:=by kernel_rfl
theorem sK:(Rows.fnNestedRow.lifted==Tryz.pinned.checked.prog.liftsFinal)=true:=by kernel_rfl
theorem sJ:(Tryz.pinned.checked.prog.make==some Rows.fnNestedRow.make)=true:=by kernel_rfl
theorem nL:joinedFacts Tryz.pinned.checked.prog 3 Tryz.f3 Rows.fnNestedSpec Rows.fnNestedRow=true:=by
 unfold joinedFacts
 have h1:=sL
 simp only [zqs]at h1
 rw [h1.1.1,h1.1.2,h1.2,sK,sJ,show laidOutB Tryz.pinned.checked.prog=true from sj]
 show _=true
 kernel_rfl
theorem qF:Rows.fnNestedRow.holds Tryz.pinned (OpenSpec.ofChange Rows.fnNestedSpec):=
 OpenClaim.holds_of_wide 3 Tryz.f3 rfl rfl rfl rfl rfl rfl rfl ⟨rfl,rfl,rfl,rfl,rfl⟩ rfl rfl rfl rfl rfl (by kernel_rfl) Tryz.func3 nL
  (of_decide_eq_true (by kernel_rfl)) (by unfold Func.isWrapper;first|(rw [if_pos (by decide+kernel)];kernel_rfl)|(rw [if_neg (by decide+kernel)];exact⟨rfl,rfl⟩))
  (fun os ha H enc _=>nK os ha H enc)
theorem FnNested_proved:Rows.FnNestedSaid:=qF
end Go.Proofs.YtckchgoblpgpbaaGreat
