/- The law FnWrapped: for every input it returns true, and each argument reads afterwards as it read before. No condition. -/
import Derived.Test.YtbnplcingdgaaaaGreatRows
import Derived.Test.YtbnplcingdgaaaaGreatW1bi
set_option linter.unusedVariables false
set_option linter.unusedSimpArgs false
set_option maxHeartbeats 4000000
namespace Go.Proofs.YtbnplcingdgaaaaGreat
open Go.ChangeShapes Go.WideShapes Go.ChangeAt Go.RowKit Am
set_option maxRecDepth 100000
theorem nB(w:World)(a0:List Int)(v0:Value)(r0:Ah 1 pk w v0 a0):
  Calls Tryz.prog 6 #[v0] w fun e w'=>e= .returned (.bool true)/\Below w.heap.size w w':=
 vn (vs:=[v0]) (kO a0 (Ah.len r0)) rfl (tP (uT r0 (by decide) (fun _=>rfl) (fun _=>rfl)) (vW))
set_option maxRecDepth 100000 in
theorem lg(os:Os)(started:os.Started)(H:Type)(enc:TypeId×Value->H):
  ReturnsInHanded {} Tryz.checked os 6 .any (Rows.fnWrappedSpec.pre6 enc Tryz.prog Tryz.f6 Rows.fnWrappedRow.domain false) (Rows.fnWrappedSpec.post enc Tryz.prog Tryz.f6 false true false false):=by
 refine returnsInHanded_of_change (C:=Tryz.checked) own started (by kernel_rfl) Tryz.func6
  (ChangeSpec.witness6 (enc:=enc) (C:=Tryz.checked) false ⟨#[], #[.slice none 0 0],[]⟩ 8 (by kernel_rfl) (by kernel_rfl) (by kernel_rfl) (by kernel_rfl)) ?_
 intro W base ha ds gs before hg hW hi _
 have hf:∀W',Below W.heap.size W W'->Rows.fnWrappedSpec.post enc Tryz.prog Tryz.f6 false true false false W ha (.bool true) W':=by
  intro W' hx
  refine wS rg (by kernel_rfl) rfl ?_ (t:=4) (by kernel_rfl) Tryz.underlying4 hW hx
  obtain⟨p,q,hA,hV,rfl,hj,hk⟩:=hW
  obtain⟨rfl,rfl⟩:=trodVars_none hV
  have hc:DataW.TrodAll enc Tryz.prog W 0 (fun _=>true) true Tryz.f6.params.toList ha.toList ds p:=hA
  rw [Tryz.params6]at hc
  obtain⟨v0,hl,d0,hh,p0,q0,hd,rfl,rfl,h0,r0⟩:=trodAll_cons hc
  obtain⟨rfl,rfl,rfl⟩:=trodAll_nil r0
  rfl
 have hb:=hg
 obtain⟨p,q,hA,hV,rfl,hj,hk⟩:=hW
 have hc:DataW.TrodAll enc Tryz.prog W 0 (fun _=>true) true Tryz.f6.params.toList ha.toList ds p:=hA
 rw [Tryz.params6]at hc
 obtain⟨v0,hl,d0,hh,p0,q0,hd,rfl,rfl,h0,r0⟩:=trodAll_cons hc
 obtain⟨rfl,rfl,rfl⟩:=trodAll_nil r0
 obtain rfl:ha= #[v0]:=by cases ha;simp_all
 rw [Tryz.params6]at hb
 obtain⟨a0,s0⟩:=tj rg Tryz.underlying5 (of_decide_eq_true (by kernel_rfl)) Tryz.underlying22 (by kernel_rfl) (by kernel_rfl) h0 (hb 0 22 v0 rfl rfl)
 exact(nB W a0 v0 s0).mono fun e W'⟨he,hx⟩=>⟨_,he,hf W' hx⟩
theorem qH:(Rows.fnWrappedRow.shortTexts.isNone&&Tryz.pinned.checked.prog.stopsHeard&&Tryz.pinned.checked.prog.mayEnter)=true:=by kernel_rfl
theorem qG:(Rows.fnWrappedRow.lifted==Tryz.pinned.checked.prog.liftsFinal)=true:=by kernel_rfl
theorem qF:(Tryz.pinned.checked.prog.make==some Rows.fnWrappedRow.make)=true:=by kernel_rfl
theorem lh:joinedFacts Tryz.pinned.checked.prog 6 Tryz.f6 Rows.fnWrappedSpec Rows.fnWrappedRow=true:=by
 unfold joinedFacts
 have h1:=qH
 simp only [zqs]at h1
 rw [h1.1.1,h1.1.2,h1.2,qG,qF,show laidOutB Tryz.pinned.checked.prog=true from rg]
 show _=true
 kernel_rfl
theorem nC:Rows.fnWrappedRow.holds Tryz.pinned (OpenSpec.ofChange Rows.fnWrappedSpec):=
 OpenClaim.holds_of_wide 6 Tryz.f6 rfl rfl rfl rfl rfl rfl rfl ⟨rfl,rfl,rfl,rfl,rfl⟩ rfl rfl rfl rfl rfl (by kernel_rfl) Tryz.func6 lh
  (of_decide_eq_true (by kernel_rfl)) (by unfold Func.isWrapper;first|(rw [if_pos (by decide+kernel)];kernel_rfl)|(rw [if_neg (by decide+kernel)];exact⟨rfl,rfl⟩))
  (fun os ha H enc _=>lg os ha H enc)
theorem FnWrapped_proved:Rows.FnWrappedSaid:=nC
end Go.Proofs.YtbnplcingdgaaaaGreat
