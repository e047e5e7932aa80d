/- A part of AM, a framework of the prover own: functions of any program as maps of data. -/
import Derived.Test.YtckchgoblpgpbaaGreatJ8ak
set_option linter.unusedVariables false
set_option linter.unusedSimpArgs false
namespace Go.Proofs.YtckchgoblpgpbaaGreat.Am
open Go.RowKit
inductive ZT
 |done
 |none
 |op (i:Nat) (rs:List Nat) (t r:ZT)
def zrd(ops:Array Oper):List Nat->Array Bool->Option (Array Bool)
 | [],L=>some L
 |j::rs,L=>if(Region.ready .any ops L).contains j then zrd ops rs (L.setIfInBounds j true)else none
def zB(ops:Array Oper):ZT->Array Bool->List Nat->Bool->Bool
 | .done,_,al,top=>top&&al.isEmpty
 | .none,_,al,top=> !top&&al.isEmpty
 | .op i rs t r,L,al,_=>match al with
  |j::al'=>Nat.beq i j&&(match zrd ops rs (L.setIfInBounds i true)with|some L'=>zB ops t L' (Region.ready .any ops L') true|none=>false)&&zB ops r L al' false
  |_=>false
def zOk(ops:Array Oper)(rs:List Nat)(t:ZT):Bool:=Ce ops ops.size&&(match zrd ops rs (Array.replicate ops.size false)with|some L=>zB ops t L (Region.ready .any ops L) true|none=>false)
def IK(P:Program)(ops:Array Oper)(o:Oper)(T:Nat->AV)(h:AH):Prop:=na P ops (fun T' h'=>h'=h/\∀d,o.dst=some d->T' d=T d) [o] T h
def IL(P:Program)(ops:Array Oper)(D:List Nat)(T:Nat->AV)(h:AH):Prop:=∀i∈D,∀o,ops[i]? =some o->IK P ops o T h
def Gn(ops:Array Oper)(rs:List Nat)(d:Nat):Prop:=∀j∈rs,∀o,ops[j]? =some o->o.dst≠some d
def FW [BP](P:Program)(ops:Array Oper)(Q:(Nat->AV)->AH->Prop):ZT->List Nat->(Nat->AV)->AH->Prop
 | .done,_,T,h=>Q T h
 | .none,_,_,_=>True
 | .op i rs t r,D,T,h=>(∃(o:Oper)(K:(Nat->AV)->AH->Prop),ops[i]? =some o/\s8 P ops K [o] T h/\
   ∀T' h',K T' h'->∃T'',(∀d,Gn ops rs d->T'' d=T' d)/\IL P ops (D++rs) T'' h'/\FW P ops Q t (D++rs) T'' h')/\FW P ops Q r D T h
theorem Dg{β:BP}{P:Program}{T T':Nat->AV}{h:AH}{o:Op}{K:AV->AH->Prop}(he:∀x∈o.operands,ev T x=ev T' x)(hp:opA P T h o K):opA P T' h o K:=by
 unfold opA at hp⊢
 split at hp
 ·rename_i t x y
  unfold stA at hp⊢
  rw [<-he x (by simp [Op.operands]),<-he y (by simp [Op.operands])];exact hp
 ·rename_i c
  have e1:∀x∈c.args.toList,ev T x=ev T' x:=fun x hx=>he x (by simp [Op.operands,Call.operands];right;simpa using hx)
  have em:c.args.toList.map (ev T')=c.args.toList.map (ev T):=zpl (fun x hx=>(e1 x hx).symm)
  split at hp
  ·rename_i hc
   unfold apA at hp⊢
   rw [hc]at hp⊢
   split at hp
   ·rename_i s x t t' _ hargs hty
    rw [hargs]at e1
    rw [<-e1 s (by simp),<-e1 x (by simp)]
    exact hp
   ·exact hp.elim
  ·obtain⟨args,ha,hb⟩:=hp
   exact⟨args,by rw [em];exact ha,hb⟩
  ·rename_i t hc
   have ht:=he (.tmp t) (by simp [Op.operands,Call.operands,hc])
   simp only [ev]at ht
   rw [<-ht]
   split at hp
   ·obtain⟨args,ha,hb⟩:=hp
    exact⟨args,by rw [em];exact ha,hb⟩
   ·exact hp.elim
  ·exact oq he hp
 ·exact oq he hp
theorem vt{ops:Array Oper}:∀(rs:List Nat)(L L':Array Bool),L.size=ops.size->zrd ops rs L=some L'->L'.size=ops.size/\(∀j,L'.getD j true=false↔L.getD j true=false/\j∉rs)/\(∀j∈rs,L.getD j true=false/\j<ops.size)/\
  ((∀i o,L.getD i true=true->ops[i]? =some o->∀e∈o.after,Region.binds .any e=true->L.getD e.on true=true)->∀i o,L'.getD i true=true->ops[i]? =some o->∀e∈o.after,Region.binds .any e=true->L'.getD e.on true=true)
 | [],L,L',hs,h=>by
  cases h
  exact⟨hs,fun j=>by simp,fun j hj=>by simp at hj,fun h=>h⟩
 |j::rs,L,L',hs,h=>by
  unfold zrd at h
  split at h
  ·rename_i hr
   have hr:j∈Region.ready .any ops L:=by simpa using hr
   obtain⟨hk,o,ho,hc⟩:=mem_ready.1 hr
   have hg:j<ops.size:=(zpj.1 ho).1
   obtain⟨h1,h2,h3,h4⟩:=vt rs _ L' (by simpa using hs) h
   have ha:∀i,(L.setIfInBounds j true).getD i true=false↔L.getD i true=false/\i≠j:=fun i=>by
    by_cases hij:j=i
    ·subst hij
     have hh:j<L.size:=by rw [hs];exact hg
     simp [hh]
    ·rw [getD_set_ne true hij]
     exact⟨fun h=>⟨h,fun e=>hij e.symm⟩,fun h=>h.1⟩
   refine⟨h1,fun i=> ?_,fun i hi=> ?_,fun hd=>h4 fun i o' hi hf e he hb=> ?_⟩
   ·rw [h2,ha,zph,not_or,and_assoc]
   ·rcases zph.1 hi with rfl|hi
    ·exact⟨hk,hg⟩
    ·obtain⟨h5,h6⟩:=h3 i hi
     exact⟨((ha i).1 h5).1,h6⟩
   ·have hL:L.getD e.on true=true:=by
     by_cases hij:i=j
     ·subst hij
      rw [ho]at hf
      cases hf
      have:=hc e he hb
      cases hx:L.getD e.on true with
      |true=>rfl
      |false=>rw [getD_both hx]at this;cases this
     ·refine hd i o' ?_ hf e he hb
      cases hx:L.getD i true with
      |true=>rfl
      |false=>rw [(ha i).2 ⟨hx,hij⟩]at hi;cases hi
    cases hx:(L.setIfInBounds j true).getD e.on true with
    |true=>rfl
    |false=>rw [((ha _).1 hx).1]at hL;cases hL
  ·cases h
section
variable {P:Program}{w0:World}{m0:AM}{h0:AH}{N:Nat}{ops:Array Oper}
variable {T:Nat->AV}{L:Array Bool}{h:AH}
theorem IE{β:BP}{Q:(Nat->AV)->AH->Prop}{D:List Nat}(t:ZT)(hB:zB ops t L [] true=true)(hq:FW P ops Q t D T h):Q T h:=by
 cases t with
 |done=>exact hq
 |none=>simp [zB]at hB
 |op i rs t r=>simp [zB]at hB
variable {Q':Exit->Act->World->Prop}{K:(Nat->AV)->AH->Prop}{Kw:Act->World->Prop}{F:Nat->Prop}
theorem Ho{β:BP}{o:Oper}{a:Act}{w:World}{m:AM}{i:Nat}
  (hg:gz N ops=true) (ho:ops[i]? =some o) (hH:RH F w m h) (hsz:a.tmps.size=N) (hlook:∀d,d∈o.looksAt ops->RV F w m h (T d) (a.tmps.getD d undef)) (hs:s8 P ops K [o] T h)
  (hK:∀(F1:Nat->Prop)(v:Value)(w':World)(m':AM)(h':AH)(res:AV),K (put T o.dst res) h'->fJ F F1 w m h->dI F1 w m h w' m' h'->RV F1 w' m' h' res v->Kw (a.put o.dst v) w'):wpOp P ops Q' i Kw a w:=by
 have ha:o∈ops.toList:=zqd (by simpa using ho:ops.toList[i]? =some o)
 unfold wpOp
 rw [ho]
 simp only
 unfold s8 at hs
 rcases jT (F:=F) (w:=w) (m:=m) (h:=h) (a:=a) (fun g t h1 h2=>by rw [hsz];exact fu hg ha g t h1 h2) (fun g t h1 h2=>hlook t (kj h1 h2)) hs with⟨hw,hA⟩|⟨hw,hA⟩
 ·rw [if_pos hw]
  left
  have hc:RTm F w m h (fun d=>if d∈o.looksAt ops then T d else .t (.c .dead)) a:=fun d=>by
   by_cases hd':d∈o.looksAt ops
   ·simp only [hd',if_true];exact hlook d hd'
   ·simp only [hd',if_false];exact(trivial:RC F w m h .dead _)
  have hb:=Dg (T':=fun d=>if d∈o.looksAt ops then T d else .t (.c .dead)) (fun x hx=>by
   cases x with
   |tmp t=>simp only [ev,mQ (ops:=ops) hx,if_true]
   |const v=>rfl
   |global g=>rfl
   |func f=>rfl) hA
  refine(l9 hH hc hb).wp (fun v w'⟨res,h',m',F1,hk,hG1,hst,hv⟩=> ?_)
  exact hK F1 v w' m' h' res hk hG1 hst hv
 ·rw [if_neg (by rw [hw];simp)]
  exact hK F undef w m h _ hA (fJ.refl _ _ _ _) (dI.refl hH) rfl
theorem EP{β:BP}{o:Oper}{a:Act}{w:World}{m:AM}{i:Nat}
  (hg:gz N ops=true) (ho:ops[i]? =some o) (hH:RH F w m h) (hsz:a.tmps.size=N) (hlook:∀d,d∈o.looksAt ops->RV F w m h (T d) (a.tmps.getD d undef)) (hs:na P ops K [o] T h)
  (hK:∀(F1:Nat->Prop)(v:Value)(w':World)(m':AM)(h':AH)(res:AV),K (put T o.dst res) h'->fJ F F1 w m h->dI F1 w m h w' m' h'->RV F1 w' m' h' res v->Kw (a.put o.dst v) w'):wpOp P ops Q' i Kw a w:=by
 have ha:o∈ops.toList:=zqd (by simpa using ho:ops.toList[i]? =some o)
 unfold wpOp
 rw [ho]
 simp only
 unfold na at hs
 rcases jT (F:=F) (w:=w) (m:=m) (h:=h) (a:=a) (fun g t h1 h2=>by rw [hsz];exact fu hg ha g t h1 h2) (fun g t h1 h2=>hlook t (kj h1 h2)) hs with⟨hw,res,rows,hA,hk⟩|⟨hw,hA⟩
 ·rw [if_pos hw]
  left
  have hd:RTm F w m h (fun d=>if d∈o.looksAt ops then T d else .t (.c .dead)) a:=fun d=>by
   by_cases hd':d∈o.looksAt ops
   ·simp only [hd',if_true];exact hlook d hd'
   ·simp only [hd',if_false];exact(trivial:RC F w m h .dead _)
  have hb:=pi (T':=fun d=>if d∈o.looksAt ops then T d else .t (.c .dead)) (fun x hx=>by
   cases x with
   |tmp t=>simp only [ev,mQ (ops:=ops) hx,if_true]
   |const v=>rfl
   |global g=>rfl
   |func f=>rfl) hA
  refine(ph o (Cp.refl h) hd hH hb).wp (fun v w'⟨res',rows',⟨e1,e2⟩,hout⟩=> ?_)
  subst e1 e2
  obtain⟨m',F1,hc,he,hv⟩:=dI.of_outG hH hout
  exact hK F1 v w' m' _ _ hk hc he hv
 ·rw [if_neg (by rw [hw];simp)]
  exact hK F undef w m h _ hA (fJ.refl _ _ _ _) (dI.refl hH) rfl
structure K3 [BP](F:Nat->Prop)(w0:World)(m0:AM)(h0:AH)(N:Nat)(ops:Array Oper)(D:List Nat)(Lc L:Array Bool)(W:List Nat)(T:Nat->AV)(h:AH)(a:Act)(w:World)(m:AM):Prop where
 sl:L.size=ops.size
 sc:Lc.size=ops.size
 sub:∀i,Lc.getD i true=false->L.getD i true=false
 pend:∀i,L.getD i true=false->Lc.getD i true=true->i∈D
 inD:∀i∈D,Lc.getD i true=true/\i<ops.size
 down:∀i o,Lc.getD i true=true->ops[i]? =some o->∀e∈o.after,Region.binds .any e=true->Lc.getD e.on true=true
 nodup:W.Nodup
 mem:∀i,i∈W↔i<ops.size/\L.getD i true=false
 tm:∀d,(∃i∈D,L.getD i true=false/\∃o,ops[i]? =some o/\o.dst=some d)\/RV F w m h (T d) (a.tmps.getD d undef)
 st:gD F w0 m0 h0 w m h
 df:a.defers=[]
 sz:a.tmps.size=N
theorem zA{i:Nat}(h:L.getD i true=false):i<L.size:=by
 rcases Nat.lt_or_ge i L.size with h1|h1
 ·exact h1
 ·simp [Array.getD,Nat.not_lt.2 h1]at h
end
def BU(g:Gd)(tab:List (TypeId×TI))(ops:List Oper)(Q:List (Nat×AV)->EH->Prop):List Nat->List (Nat×AV)->EH->Prop
 | [],l,h=>Q l h
 |j::rs,l,h=>match nth ops j with
  |some o=>lz g tab ops (fun l' h'=>h'=h/\BU g tab ops Q rs l' h) [o] 1 l h
  |none=>False
def Kk(g:Gd)(tab:List (TypeId×TI))(ops:List Oper):List Nat->List (Nat×AV)->EH->Prop
 | [],_,_=>True
 |j::D,l,h=>(match nth ops j with
  |some o=>lz g tab ops (fun l' h'=>h'=h/\(match o.dst with|some d=>lkT l' d=lkT l d|none=>True)) [o] 1 l h
  |none=>False)/\Kk g tab ops D l h
def J3(g:Gd)(tab:List (TypeId×TI))(ops:List Oper)(Q:List (Nat×AV)->EH->Prop):ZT->List Nat->List (Nat×AV)->EH->Prop
 | .done,_,l,h=>Q l h
 | .none,_,_,_=>True
 | .op i rs t r,D,l,h=>(match nth ops i with
  |some o=>lz g tab ops (fun l1 h1=>BU g tab ops (fun l2 h2=>Kk g tab ops (D++rs) l2 h2/\J3 g tab ops Q t (D++rs) l2 h2) rs l1 h1) [o] 0 l h
  |none=>False)/\J3 g tab ops Q r D l h
def Ks(g:Gd)(tab:List (TypeId×TI))(ops:List Oper)(rs:List Nat)(t:ZT)(Q:List (Nat×AV)->EH->Prop)(l:List (Nat×AV))(h:EH):Prop:=
 BU g tab ops (fun l2 h2=>Kk g tab ops rs l2 h2/\J3 g tab ops Q t rs l2 h2) rs l h
section
variable {P:Program}{n0 N:Nat}{tab:List (TypeId × TI)}
theorem Bh{β:BP}(hf:fL P tab){ops:Array Oper}{Q:List (Nat×AV)->EH->Prop}{o:Oper}{l:List (Nat×AV)}{h:EH}(hp:lz (G0 P n0 N) tab ops.toList Q [o] 1 l h):na P ops (QH Q) [o] (lkT l) (toH h):=by
 have:=cj hf [o] 1 l h hp
 exact this
theorem nC{β:BP}(hf:fL P tab){ops:Array Oper}{Q:List (Nat×AV)->EH->Prop}:∀(rs:List Nat)(l:List (Nat×AV))(h:EH),BU (G0 P n0 N) tab ops.toList Q rs l h->∃l2,(∀d,Gn ops rs d->lkT l2 d=lkT l d)/\Q l2 h
 | [],l,h,hp=>⟨l,fun _ _=>rfl,hp⟩
 |j::rs,l,h,hp=>by
  unfold BU at hp
  split at hp
  ·rename_i o ho
   rw [fF,Array.getElem?_toList]at ho
   have h1:=Bh hf hp
   unfold na at h1
   have hb:∃v l',put (lkT l) o.dst v=lkT l'/\BU (G0 P n0 N) tab ops.toList Q rs l' h:=by
    rcases Bi h1 with⟨_,res,rows,_,l',eh,e1,e2,e3,hr⟩|⟨_,l',eh,e1,e2,e3,hr⟩
    ·exact⟨_,l',e1,hr⟩
    ·exact⟨_,l',e1,hr⟩
   obtain⟨v,l',e1,hr⟩:=hb
   obtain⟨l2,h2,h3⟩:=nC hf rs l' h hr
   refine⟨l2,fun d hd=> ?_,h3⟩
   rw [h2 d fun i hi o' ha=>hd i (zpe _ hi) o' ha,<-e1]
   exact AI _ _ (hd j (zpd ..) o ho)
  ·exact hp.elim
theorem py{β:BP}(hf:fL P tab){ops:Array Oper}:∀(D:List Nat)(l:List (Nat×AV))(h:EH),Kk (G0 P n0 N) tab ops.toList D l h->IL P ops D (lkT l) (toH h)
 | [],l,h,hp=>fun i hi=>by simp at hi
 |j::D,l,h,hp=>fun i hi o ho=>by
  obtain⟨h1,h2⟩:=hp
  rcases zph.1 hi with rfl|hi
  ·split at h1
   ·rename_i o' ho'
    rw [fF,Array.getElem?_toList,ho]at ho'
    cases ho'
    have h3:=Bh hf h1
    unfold IK
    unfold na at h3⊢
    have fin:∀T' h',QH (fun l' h'=>h'=h/\(match o.dst with|some d=>lkT l' d=lkT l d|none=>True)) T' h'->h'=toH h/\∀d,o.dst=some d->T' d=lkT l d:=fun T' h'⟨l',eh,e1,e2,e3,e4⟩=>by
     subst e1 e2 e3
     refine⟨rfl,fun d hd=> ?_⟩
     rw [hd]at e4
     exact e4
    exact Fj (fun⟨res,rows,a1,a2⟩=>⟨res,rows,a1,fin _ _ a2⟩) (fun a2=>fin _ _ a2) h3
   ·exact h1.elim
  ·exact py hf D l h h2 i hi o ho
theorem pf{β:BP}(hf:fL P tab){ops:Array Oper}{Q:List (Nat×AV)->EH->Prop}:∀(t:ZT)(D:List Nat)(l:List (Nat×AV))(h:EH),J3 (G0 P n0 N) tab ops.toList Q t D l h->FW P ops (QH Q) t D (lkT l) (toH h)
 | .done,D,l,h,hp=>⟨l,h,rfl,rfl,hp⟩
 | .none,_,_,_,_=>trivial
 | .op i rs t r,D,l,h,hp=>by
  obtain⟨h1,h2⟩:=hp
  refine⟨?_,pf hf r D l h h2⟩
  split at h1
  ·rename_i o ho
   rw [fF,Array.getElem?_toList]at ho
   have h3:=cj hf [o] 0 l h h1
   refine⟨o,_,ho,h3,fun T' h' hk=> ?_⟩
   obtain⟨l',eh,rfl,rfl,hq⟩:=hk
   obtain⟨l2,ha,hc,hr⟩:=nC hf rs l' eh hq
   exact⟨lkT l2,ha,py hf _ l2 eh hc,pf hf t _ l2 eh hr⟩
  ·exact h1.elim
end
end Go.Proofs.YtckchgoblpgpbaaGreat.Am
