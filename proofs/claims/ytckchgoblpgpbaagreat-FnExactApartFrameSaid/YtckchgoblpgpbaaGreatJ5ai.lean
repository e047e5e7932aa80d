/- A part of AM, a framework of the prover own: functions of any program as maps of data. -/
import Derived.Test.YtckchgoblpgpbaaGreatJ5ah
set_option linter.unusedVariables false
set_option linter.unusedSimpArgs false
namespace Go.Proofs.YtckchgoblpgpbaaGreat.Am
open Go.RowKit
section
variable {F:Nat->Prop}{w:World}
end
section
variable {F:Nat->Prop}{w:World}{m:AM}{h:AH}
end
section
variable {F:Nat->Prop}{w:World}{m:AM}{h:AH}{β:Nat->Nat}
end
section
variable {P:Program}{tab:List (TypeId × TI)}
end
section
variable {P:Program}{n0 N:Nat}{g:Gd}
end
abbrev MU:=List (List Nat×LLA×LLA)
section
variable {F:Nat->Prop}{U:MU}{w w':World}{m:AM}{h h':AH}
end
section
variable {P:Program}{tab:List (TypeId × TI)}{N:Nat}{F F0:Nat->Prop}{w0:World}{m0:AM}{h0:AH}
theorem qf{β:BP}{ops:Array Oper}{K:Exit->Act->World->Prop}{C:(Nat->AV)->AH->Prop}{l2:List Oper}(hg:f9 N ops=true)
  (hC:∀(F:Nat->Prop)(T:Nat->AV)(h:AH)(a:Act)(w:World)(m:AM),fB F0 F w0 m0 h0->Rel F w0 m0 h0 N T h a w m->C T h->wpList P ops K l2 a w):
  ∀(l:List Oper)(F:Nat->Prop)(T:Nat->AV)(h:AH)(a:Act)(w:World)(m:AM),(∀o∈l,o∈ops.toList)->l.all (fO N)=true->fB F0 F w0 m0 h0->Rel F w0 m0 h0 N T h a w m->rf P ops C l T h->wpList P ops K (l++l2) a w
 | [],F,T,h,a,w,m,_,_,hG,r,hs=>hC F T h a w m hG r hs
 |o::os,F,T,h,a,w,m,hmem,hd,hG,r,hs=>by
  simp only [zqD,zqs]at hd
  unfold rf at hs
  rw [List.cons_append]
  unfold wpList
  rcases jq (a:=a) (fun g t h1 h2=>by rw [r.sz];exact ff hg (hmem o (by simp)) g t h1 h2) (fun g t _ _=>r.tm t) hs with⟨hw,hA⟩|⟨hw,hB⟩
  ·rw [if_pos hw]
   left
   refine(ld r.st.hp r.tm hA).wp (fun v w'⟨res,h',m',F1,hK,hG1,hs,hv⟩=> ?_)
   exact qf hg hC os F1 _ _ _ _ _ (fun o' ha=>hmem o' (by simp [ha])) hd.2 (r.grow hG hG1) (r.nextG hd.1 hG1.1 hs hv) hK
  ·rw [if_neg (by rw [hw];simp)]
   exact qf hg hC os F _ _ _ _ _ (fun o' ha=>hmem o' (by simp [ha])) hd.2 hG (r.skip hd.1) hB
end
section
variable {P:Program}{tab:List (TypeId × TI)}
end
section
variable {P:Program}{tab:List (TypeId × TI)}
end
section
variable {F:Nat->Prop}{w:World}
end
section
variable {P:Program}{n0 N:Nat}{g:Gd}
end
end Go.Proofs.YtckchgoblpgpbaaGreat.Am
