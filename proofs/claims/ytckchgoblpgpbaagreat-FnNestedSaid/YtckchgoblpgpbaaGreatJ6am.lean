/- A part of AM, a framework of the prover own: functions of any program as maps of data. -/
import Derived.Test.YtckchgoblpgpbaaGreatJ6al
set_option linter.unusedVariables false
set_option linter.unusedSimpArgs false
namespace Go.Proofs.YtckchgoblpgpbaaGreat.Am
open Go.RowKit
inductive ZT
 |done
 |none
 |op (i:Nat) (rs:List Nat) (t r:ZT)
def zrd(ops:Array Oper):List Nat->Array Bool->Option (Array Bool)
 | [],L=>some L
 |j::rs,L=>if(Region.ready .any ops L).contains j then zrd ops rs (L.setIfInBounds j true)else none
def zB(ops:Array Oper):ZT->Array Bool->List Nat->Bool->Bool
 | .done,_,al,top=>top&&al.isEmpty
 | .none,_,al,top=> !top&&al.isEmpty
 | .op i rs t r,L,al,_=>match al with
  |j::al'=>Nat.beq i j&&(match zrd ops rs (L.setIfInBounds i true)with|some L'=>zB ops t L' (Region.ready .any ops L') true|none=>false)&&zB ops r L al' false
  |_=>false
def zOk(ops:Array Oper)(rs:List Nat)(t:ZT):Bool:=sq ops ops.size&&(match zrd ops rs (Array.replicate ops.size false)with|some L=>zB ops t L (Region.ready .any ops L) true|none=>false)
def B9(P:Program)(ops:Array Oper)(o:Oper)(T:Nat->AV)(h:AH):Prop:=jm P ops (fun T' h'=>h'=h/\∀d,o.dst=some d->T' d=T d) [o] T h
def y9(P:Program)(ops:Array Oper)(D:List Nat)(T:Nat->AV)(h:AH):Prop:=∀i∈D,∀o,ops[i]? =some o->B9 P ops o T h
def tj(ops:Array Oper)(rs:List Nat)(d:Nat):Prop:=∀j∈rs,∀o,ops[j]? =some o->o.dst≠some d
def uc [BP](P:Program)(ops:Array Oper)(Q:(Nat->AV)->AH->Prop):ZT->List Nat->(Nat->AV)->AH->Prop
 | .done,_,T,h=>Q T h
 | .none,_,_,_=>True
 | .op i rs t r,D,T,h=>(∃(o:Oper)(K:(Nat->AV)->AH->Prop),ops[i]? =some o/\my P ops K [o] T h/\
   ∀T' h',K T' h'->∃T'',(∀d,tj ops rs d->T'' d=T' d)/\y9 P ops (D++rs) T'' h'/\uc P ops Q t (D++rs) T'' h')/\uc P ops Q r D T h
theorem wx{β:BP}{P:Program}{T T':Nat->AV}{h:AH}{o:Op}{K:AV->AH->Prop}(he:∀x∈o.operands,ev T x=ev T' x)(hp:opA P T h o K):opA P T' h o K:=by
 unfold opA at hp⊢
 split at hp
 ·rename_i t x y
  unfold stA at hp⊢
  rw [<-he x (by simp [Op.operands]),<-he y (by simp [Op.operands])];exact hp
 ·rename_i c
  have e1:∀x∈c.args.toList,ev T x=ev T' x:=fun x hx=>he x (by simp [Op.operands,Call.operands];right;simpa using hx)
  have em:c.args.toList.map (ev T')=c.args.toList.map (ev T):=List.map_congr_left (fun x hx=>(e1 x hx).symm)
  split at hp
  ·rename_i hc
   unfold apA at hp⊢
   rw [hc]at hp⊢
   split at hp
   ·rename_i s x t t' _ hargs hty
    rw [hargs]at e1
    rw [<-e1 s (by simp),<-e1 x (by simp)]
    exact hp
   ·exact hp.elim
  ·obtain⟨hb,ha,hd⟩:=hp
   exact⟨hb,by rw [em];exact ha,hd⟩
  ·rename_i t hc
   have ht:=he (.tmp t) (by simp [Op.operands,Call.operands,hc])
   simp only [ev]at ht
   rw [<-ht]
   split at hp
   ·obtain⟨hb,ha,hd⟩:=hp
    exact⟨hb,by rw [em];exact ha,hd⟩
   ·exact hp.elim
  ·exact j9 he hp
 ·exact j9 he hp
theorem jU{ops:Array Oper}:∀(rs:List Nat)(L L':Array Bool),L.size=ops.size->zrd ops rs L=some L'->L'.size=ops.size/\(∀j,L'.getD j true=false↔L.getD j true=false/\j∉rs)/\(∀j∈rs,L.getD j true=false/\j<ops.size)/\
  ((∀i o,L.getD i true=true->ops[i]? =some o->∀e∈o.after,Region.binds .any e=true->L.getD e.on true=true)->∀i o,L'.getD i true=true->ops[i]? =some o->∀e∈o.after,Region.binds .any e=true->L'.getD e.on true=true)
 | [],L,L',hs,h=>by
  cases h
  exact⟨hs,fun j=>by simp,fun j hj=>by simp at hj,fun h=>h⟩
 |j::rs,L,L',hs,h=>by
  unfold zrd at h
  split at h
  ·rename_i hr
   have hr:j∈Region.ready .any ops L:=by simpa using hr
   obtain⟨hk,o,ho,hc⟩:=mem_ready.1 hr
   have hg:j<ops.size:=(Array.getElem?_eq_some_iff.1 ho).1
   obtain⟨h1,h2,h3,h4⟩:=jU rs _ L' (by simpa using hs) h
   have ha:∀i,(L.setIfInBounds j true).getD i true=false↔L.getD i true=false/\i≠j:=fun i=>by
    by_cases hij:j=i
    ·subst hij
     have hh:j<L.size:=by rw [hs];exact hg
     simp [hh]
    ·rw [getD_set_ne true hij]
     exact⟨fun h=>⟨h,fun e=>hij e.symm⟩,fun h=>h.1⟩
   refine⟨h1,fun i=> ?_,fun i hi=> ?_,fun hd=>h4 fun i o' hi hf e he hb=> ?_⟩
   ·rw [h2,ha,List.mem_cons,not_or,and_assoc]
   ·rcases List.mem_cons.1 hi with rfl|hi
    ·exact⟨hk,hg⟩
    ·obtain⟨h5,h6⟩:=h3 i hi
     exact⟨((ha i).1 h5).1,h6⟩
   ·have hL:L.getD e.on true=true:=by
     by_cases hij:i=j
     ·subst hij
      rw [ho]at hf
      cases hf
      have:=hc e he hb
      cases hx:L.getD e.on true with
      |true=>rfl
      |false=>rw [getD_both hx]at this;cases this
     ·refine hd i o' ?_ hf e he hb
      cases hx:L.getD i true with
      |true=>rfl
      |false=>rw [(ha i).2 ⟨hx,hij⟩]at hi;cases hi
    cases hx:(L.setIfInBounds j true).getD e.on true with
    |true=>rfl
    |false=>rw [((ha _).1 hx).1]at hL;cases hL
  ·cases h
section
variable {P:Program}{w0:World}{m0:AM}{h0:AH}{N:Nat}{ops:Array Oper}
theorem BZ{β:BP}{Q:(Nat->AV)->AH->Prop}{L:Array Bool}{D:List Nat}{T:Nat->AV}{h:AH}:∀(t:ZT)(al:List Nat)(top:Bool),zB ops t L al top=true->uc P ops Q t D T h->∀i∈al,∃rs t' L',zrd ops rs (L.setIfInBounds i true)=some L'/\zB ops t' L' (Region.ready .any ops L') true=true/\
  ∃(o:Oper)(K:(Nat->AV)->AH->Prop),ops[i]? =some o/\my P ops K [o] T h/\∀T' h',K T' h'->∃T'',(∀d,tj ops rs d->T'' d=T' d)/\y9 P ops (D++rs) T'' h'/\uc P ops Q t' (D++rs) T'' h'
 | .done,al,top,hB,hq,i,hi=>by
  simp only [zB,zqs,List.isEmpty_iff]at hB
  rw [hB.2]at hi;simp at hi
 | .none,al,top,hB,hq,i,hi=>by
  simp only [zB,zqs,List.isEmpty_iff]at hB
  rw [hB.2]at hi;simp at hi
 | .op j rs t r,al,top,hB,hq,i,hi=>by
  unfold zB at hB
  split at hB
  ·rename_i k al'
   simp only [zqs]at hB
   obtain⟨⟨hb,ha⟩,hc⟩:=hB
   have hb:j=k:=Nat.eq_of_beq_eq_true hb
   subst hb
   obtain⟨h1,h2⟩:=hq
   rcases List.mem_cons.1 hi with rfl|hi
   ·split at ha
    ·rename_i L' hL'
     exact⟨rs,t,L',hL',ha,h1⟩
    ·cases ha
   ·exact BZ r al' false hc h2 i hi
  ·cases hB
variable {T:Nat->AV}{h:AH}{L:Array Bool}
theorem yP{β:BP}{Q:(Nat->AV)->AH->Prop}{D:List Nat}(t:ZT)(hB:zB ops t L [] true=true)(hq:uc P ops Q t D T h):Q T h:=by
 cases t with
 |done=>exact hq
 |none=>simp [zB]at hB
 |op i rs t r=>simp [zB]at hB
variable {Q':Exit->Act->World->Prop}{K:(Nat->AV)->AH->Prop}{Kw:Act->World->Prop}{F:Nat->Prop}
theorem vU{β:BP}{o:Oper}{a:Act}{w:World}{m:AM}{i:Nat}
  (hg:ek N ops=true) (ho:ops[i]? =some o) (hH:RH F w m h) (hsz:a.tmps.size=N) (hlook:∀d,d∈o.looksAt ops->RV F w m h (T d) (a.tmps.getD d undef)) (hs:my P ops K [o] T h)
  (hK:∀(F1:Nat->Prop)(v:Value)(w':World)(m':AM)(h':AH)(res:AV),K (put T o.dst res) h'->dx F F1 w m h->de F1 w m h w' m' h'->RV F1 w' m' h' res v->Kw (a.put o.dst v) w'):wpOp P ops Q' i Kw a w:=by
 have ha:o∈ops.toList:=zqd (by simpa using ho:ops.toList[i]? =some o)
 unfold wpOp
 rw [ho]
 simp only
 unfold my at hs
 rcases gu (F:=F) (w:=w) (m:=m) (h:=h) (a:=a) (fun g t h1 h2=>by rw [hsz];exact dB hg ha g t h1 h2) (fun g t h1 h2=>hlook t (gG h1 h2)) hs with⟨hw,hA⟩|⟨hw,hA⟩
 ·rw [if_pos hw]
  left
  have hc:RTm F w m h (fun d=>if d∈o.looksAt ops then T d else .t (.c .dead)) a:=fun d=>by
   by_cases hd':d∈o.looksAt ops
   ·simp only [hd',if_true];exact hlook d hd'
   ·simp only [hd',if_false];exact(trivial:RC F w m h .dead _)
  have hb:=wx (T':=fun d=>if d∈o.looksAt ops then T d else .t (.c .dead)) (fun x hx=>by
   cases x with
   |tmp t=>simp only [ev,ja (ops:=ops) hx,if_true]
   |const v=>rfl
   |global g=>rfl
   |func f=>rfl) hA
  refine(iq hH hc hb).wp (fun v w'⟨res,h',m',F1,hk,hG1,hst,hv⟩=> ?_)
  exact hK F1 v w' m' h' res hk hG1 hst hv
 ·rw [if_neg (by rw [hw];simp)]
  exact hK F undef w m h _ hA (dx.refl _ _ _ _) (de.refl hH) rfl
theorem s8{β:BP}{o:Oper}{a:Act}{w:World}{m:AM}{i:Nat}
  (hg:ek N ops=true) (ho:ops[i]? =some o) (hH:RH F w m h) (hsz:a.tmps.size=N) (hlook:∀d,d∈o.looksAt ops->RV F w m h (T d) (a.tmps.getD d undef)) (hs:jm P ops K [o] T h)
  (hK:∀(F1:Nat->Prop)(v:Value)(w':World)(m':AM)(h':AH)(res:AV),K (put T o.dst res) h'->dx F F1 w m h->de F1 w m h w' m' h'->RV F1 w' m' h' res v->Kw (a.put o.dst v) w'):wpOp P ops Q' i Kw a w:=by
 have ha:o∈ops.toList:=zqd (by simpa using ho:ops.toList[i]? =some o)
 unfold wpOp
 rw [ho]
 simp only
 unfold jm at hs
 rcases gu (F:=F) (w:=w) (m:=m) (h:=h) (a:=a) (fun g t h1 h2=>by rw [hsz];exact dB hg ha g t h1 h2) (fun g t h1 h2=>hlook t (gG h1 h2)) hs with⟨hw,res,rows,hA,hk⟩|⟨hw,hA⟩
 ·rw [if_pos hw]
  left
  have hd:RTm F w m h (fun d=>if d∈o.looksAt ops then T d else .t (.c .dead)) a:=fun d=>by
   by_cases hd':d∈o.looksAt ops
   ·simp only [hd',if_true];exact hlook d hd'
   ·simp only [hd',if_false];exact(trivial:RC F w m h .dead _)
  have hb:=kY (T':=fun d=>if d∈o.looksAt ops then T d else .t (.c .dead)) (fun x hx=>by
   cases x with
   |tmp t=>simp only [ev,ja (ops:=ops) hx,if_true]
   |const v=>rfl
   |global g=>rfl
   |func f=>rfl) hA
  refine(kT o (Cp.refl h) hd hH hb).wp (fun v w'⟨res',rows',⟨e1,e2⟩,hout⟩=> ?_)
  subst e1 e2
  obtain⟨m',F1,hc,he,hv⟩:=de.of_outG hH hout
  exact hK F1 v w' m' _ _ hk hc he hv
 ·rw [if_neg (by rw [hw];simp)]
  exact hK F undef w m h _ hA (dx.refl _ _ _ _) (de.refl hH) rfl
structure Du [BP](F:Nat->Prop)(w0:World)(m0:AM)(h0:AH)(N:Nat)(ops:Array Oper)(D:List Nat)(Lc L:Array Bool)(W:List Nat)(T:Nat->AV)(h:AH)(a:Act)(w:World)(m:AM):Prop where
 sl:L.size=ops.size
 sc:Lc.size=ops.size
 sub:∀i,Lc.getD i true=false->L.getD i true=false
 pend:∀i,L.getD i true=false->Lc.getD i true=true->i∈D
 inD:∀i∈D,Lc.getD i true=true/\i<ops.size
 down:∀i o,Lc.getD i true=true->ops[i]? =some o->∀e∈o.after,Region.binds .any e=true->Lc.getD e.on true=true
 nodup:W.Nodup
 mem:∀i,i∈W↔i<ops.size/\L.getD i true=false
 tm:∀d,(∃i∈D,L.getD i true=false/\∃o,ops[i]? =some o/\o.dst=some d)\/RV F w m h (T d) (a.tmps.getD d undef)
 st:gy F w0 m0 h0 w m h
 df:a.defers=[]
 sz:a.tmps.size=N
theorem lk{i:Nat}(h:L.getD i true=false):i<L.size:=by
 rcases Nat.lt_or_ge i L.size with h1|h1
 ·exact h1
 ·simp [Array.getD,Nat.not_lt.2 h1]at h
variable {Q:Exit->(Nat->AV)->AH->Prop}
theorem u6{β:BP}{F0:Nat->Prop}(hhead:sq ops ops.size=true)(hg:ek N ops=true)(hd:ops.toList.all (dR N)=true):
  ∀(f:Nat)(t:ZT)(D:List Nat)(Lc L:Array Bool)(W:List Nat)(T:Nat->AV)(h:AH)(F:Nat->Prop)(a:Act)(w:World)(m:AM),W.length=f->zB ops t Lc (Region.ready .any ops Lc) true=true->y9 P ops D T h->dx F0 F w0 m0 h0->Du F w0 m0 h0 N ops D Lc L W T h a w m->
   uc P ops (Q .normal) t D T h->wpAny P .any ops (gP F0 w0 m0 h0 N Q) f L a w:=by
 have hI:∀(t:ZT)(D:List Nat)(Lc L:Array Bool)(W:List Nat)(T:Nat->AV)(h:AH)(F:Nat->Prop)(a:Act)(w:World)(m:AM),zB ops t Lc (Region.ready .any ops Lc) true=true->dx F0 F w0 m0 h0->Du F w0 m0 h0 N ops D Lc L W T h a w m->uc P ops (Q .normal) t D T h->Region.ready .any ops L=[]->gP F0 w0 m0 h0 N Q .normal a w:=by
  intro t D Lc L W T h F a w m hB hG M hq hr
  have hU:∀i,L.getD i true=false->Lc.getD i true=false:=by
   have xf:∀n i,i<n->L.getD i true=false->Lc.getD i true=true->False:=by
    intro n
    induction n with
    |zero=>intro i hi;omega
    |succ n ih=>
     intro i hi h1 h2
     have ht:i<ops.size:=by rw [<-M.sl];exact lk h1
     obtain⟨o,ho,hE,_⟩:=gq hhead ht
     have:i∈Region.ready .any ops L:=mem_ready.2 ⟨h1,o,ho,fun e he hb=>by
      have hY:=hE e he hb
      cases hx:L.getD e.on true with
      |true=>
       have hQ:e.on<L.size:=by rw [M.sl];omega
       simp [Array.getD,hQ]at hx⊢
       exact hx
      |false=>exact(ih e.on (by omega) hx (M.down i o h2 ho e he hb)).elim⟩
     rw [hr]at this
     simp at this
   intro i h1
   cases hx:Lc.getD i true with
   |false=>rfl
   |true=>exact(xf (i+1) i (by omega) h1 hx).elim
  have h7:L=Lc:=by
   apply Array.ext_getElem?
   intro i
   by_cases hi:i<ops.size
   ·have ht:i<L.size:=by rw [M.sl];exact hi
    have hX:i<Lc.size:=by rw [M.sc];exact hi
    rw [Array.getElem?_eq_getElem ht,Array.getElem?_eq_getElem hX]
    have e1:L.getD i true=L[i]:=by simp [Array.getD,ht]
    have e2:Lc.getD i true=Lc[i]:=by simp [Array.getD,hX]
    rw [<-e1,<-e2]
    congr 1
    cases hx:L.getD i true with
    |false=>exact(hU i hx).symm
    |true=>
     cases hy:Lc.getD i true with
     |true=>rfl
     |false=>rw [M.sub i hy]at hx;cases hx
   ·rw [Array.getElem?_eq_none (by rw [M.sl];omega),Array.getElem?_eq_none (by rw [M.sc];omega)]
  rw [<-h7,hr]at hB
  refine⟨T,h,m,F,yP t hB hq,hG,fun d=> ?_,M.st,M.df,M.sz⟩
  rcases M.tm d with⟨i,hi,h1,_⟩|h1
  ·have:=(M.inD i hi).1
   rw [hU i h1]at this
   cases this
  ·exact h1
 intro f
 induction f with
 |zero=>
  intro t D Lc L W T h F a w m hW hB hR hG M hq
  have hn:Region.ready .any ops L=[]:=by
   cases hc:Region.ready .any ops L with
   |nil=>rfl
   |cons x xs=>
    obtain⟨h1,_⟩:=mem_ready.1 (by rw [hc];simp:x∈Region.ready .any ops L)
    have:x∈W:=(M.mem x).2 ⟨by rw [<-M.sl];exact lk h1,h1⟩
    rw [zqv hW]at this
    simp at this
  exact⟨hn,hI t D Lc L W T h F a w m hB hG M hq hn⟩
 |succ f ih=>
  intro t D Lc L W T h F a w m hW hB hR hG M hq
  refine⟨fun hn=>hI t D Lc L W T h F a w m hB hG M hq hn,fun i hi=> ?_⟩
  obtain⟨h4,o,ho,hF⟩:=mem_ready.1 hi
  have ht:i<ops.size:=(Array.getElem?_eq_some_iff.1 ho).1
  have hJ:o∈ops.toList:=zqd (by simpa using ho:ops.toList[i]? =some o)
  have hP:dR N o=true:=List.all_eq_true.1 hd o hJ
  have xb:i∈W:=(M.mem i).2 ⟨ht,h4⟩
  have hV:(W.erase i).length=f:=by rw [List.length_erase_of_mem xb,hW];rfl
  obtain⟨o2,hL,hE,hO⟩:=gq hhead ht
  rw [ho]at hL
  cases hL
  have hA:∀d,d∈o.looksAt ops->RV F w m h (T d) (a.tmps.getD d undef):=fun d h9=>by
   rcases M.tm d with⟨j,hj,hjun,o',hm,hu⟩|h1
   ·obtain⟨_,hw⟩:=(hO j o' d (M.inD j hj).2 hm hu).2 h9
    obtain⟨oi,hZ,e,he,hb,xc⟩:=Region.waitsFor_spec hw
    rw [ho]at hZ
    cases hZ
    have h2:=hF e he hb
    rw [xc,getD_both hjun]at h2
    cases h2
   ·exact h1
  have hf:∀j,(L.setIfInBounds i true).getD j true=false↔L.getD j true=false/\j≠i:=fun j=>by
   by_cases hij:i=j
   ·subst hij
    have:i<L.size:=by rw [M.sl];exact ht
    simp [this]
   ·rw [getD_set_ne true hij]
    exact⟨fun h=>⟨h,fun e=>hij e.symm⟩,fun h=>h.1⟩
  have hC:∀j,j∈W.erase i↔j<ops.size/\(L.setIfInBounds i true).getD j true=false:=fun j=>by
   rw [M.nodup.mem_erase_iff,M.mem j,hf]
   exact⟨fun⟨h1,h2,h3⟩=>⟨h2,h3,h1⟩,fun⟨h1,h2,h3⟩=>⟨h3,h1,h2⟩⟩
  have hM:∀(v:Value)(d:Nat),o.dst=some d->(a.put o.dst v).tmps.getD d undef=v:=fun v d hl=>by
   rw [dg]
   have hY:d<N:=by unfold dR at hP;rw [hl]at hP;simpa using hP
   rw [if_pos ⟨hl,by rw [M.sz];exact hY⟩]
  have hD:∀(v:Value)(d:Nat),o.dst≠some d->(a.put o.dst v).tmps.getD d undef=a.tmps.getD d undef:=fun v d hl=>by
   rw [dg,if_neg (fun hx=>hl hx.1)]
  cases hci:Lc.getD i true with
  |true=>
   have xa:=M.pend i h4 hci
   refine s8 hg ho M.st.hp M.sz hA (hR i xa o ho) (fun F1 v w' m' h' res hk hH hh hv=> ?_)
   obtain⟨rfl,h8⟩:=hk
   refine ih t D Lc _ (W.erase i) T h' F1 _ w' m' hV hB hR (hG.trans M.st hH) ⟨by simpa using M.sl,M.sc,fun j hj=>(hf j).2 ⟨M.sub j hj,fun e=>by rw [e,hci]at hj;cases hj⟩,fun j hj hN=>M.pend j ((hf j).1 hj).1 hN,M.inD,M.down,M.nodup.erase i,hC,fun d=> ?_,M.st.trans hh,by rw [cq];exact M.df,by rw [ec];exact M.sz⟩ hq
   by_cases hl:o.dst=some d
   ·right
    rw [hM v d hl,<-h8 d hl]
    unfold put
    rw [hl]
    simpa using hv
   ·rw [hD v d hl]
    rcases M.tm d with⟨j,hj,hjun,o',hm,hu⟩|h1
    ·left
     refine⟨j,hj,(hf j).2 ⟨hjun,fun e=> ?_⟩,o',hm,hu⟩
     subst e
     rw [ho]at hm
     cases hm
     exact hl hu
    ·exact .inr (RV.stepG hh hH.1 M.st.hp h1)
  |false=>
   have xe:i∈Region.ready .any ops Lc:=mem_ready.2 ⟨hci,o,ho,fun e he hb=>by
    have h1:=hF e he hb
    have hQ:e.on<ops.size:=by have:=hE e he hb;omega
    cases hx:Lc.getD e.on true with
    |true=>
     have:e.on<Lc.size:=by rw [M.sc];exact hQ
     simp [Array.getD,this]at hx⊢
     exact hx
    |false=>rw [getD_both (M.sub _ hx)]at h1;cases h1⟩
   obtain⟨rs,t',L',hz,h6,o2,K,hL,hs,hK⟩:=BZ t _ true hB hq i xe
   rw [ho]at hL
   cases hL
   refine vU hg ho M.st.hp M.sz hA hs (fun F1 v w' m' h' res hk hH hh hv=> ?_)
   obtain⟨h5,hT,hS,xd⟩:=hK _ _ hk
   have ha:∀j,(Lc.setIfInBounds i true).getD j true=false↔Lc.getD j true=false/\j≠i:=fun j=>by
    by_cases hij:i=j
    ·subst hij
     have:i<Lc.size:=by rw [M.sc];exact ht
     simp [this]
    ·rw [getD_set_ne true hij]
     exact⟨fun h=>⟨h,fun e=>hij e.symm⟩,fun h=>h.1⟩
   obtain⟨z1,z2,z3,z4⟩:=jU rs _ L' (by simpa using M.sc) hz
   refine ih t' (D++rs) L' _ (W.erase i) h5 h' F1 _ w' m' hV h6 hS (hG.trans M.st hH) ⟨by simpa using M.sl,z1,fun j hj=> ?_,fun j hj hN=> ?_,fun j hj=> ?_,z4 fun j o' hj hm e he hb=> ?_,M.nodup.erase i,hC,fun d=> ?_,M.st.trans hh,by rw [cq];exact M.df,by rw [ec];exact M.sz⟩ xd
   ·obtain⟨h1,_⟩:=(z2 j).1 hj
    obtain⟨h2,h3⟩:=(ha j).1 h1
    exact(hf j).2 ⟨M.sub j h2,h3⟩
   ·obtain⟨h1,h2⟩:=(hf j).1 hj
    by_cases hjr:j∈rs
    ·exact List.mem_append_right _ hjr
    ·refine List.mem_append_left _ (M.pend j h1 ?_)
     cases hx:Lc.getD j true with
     |true=>rfl
     |false=>rw [(z2 j).2 ⟨(ha j).2 ⟨hx,h2⟩,hjr⟩]at hN;cases hN
   ·rcases List.mem_append.1 hj with h1|h1
    ·obtain⟨h2,h3⟩:=M.inD j h1
     refine⟨?_,h3⟩
     cases hx:L'.getD j true with
     |true=>rfl
     |false=>rw [((ha j).1 ((z2 j).1 hx).1).1]at h2;cases h2
    ·refine⟨?_,(z3 j h1).2⟩
     cases hx:L'.getD j true with
     |true=>rfl
     |false=>exact(((z2 j).1 hx).2 h1).elim
   ·have h1:Lc.getD e.on true=true:=by
     by_cases hij:j=i
     ·subst hij
      rw [ho]at hm
      cases hm
      have h2:=hF e he hb
      cases hx:Lc.getD e.on true with
      |true=>rfl
      |false=>rw [getD_both (M.sub _ hx)]at h2;cases h2
     ·refine M.down j o' ?_ hm e he hb
      cases hx:Lc.getD j true with
      |true=>rfl
      |false=>rw [(ha j).2 ⟨hx,hij⟩]at hj;cases hj
    cases hx:(Lc.setIfInBounds i true).getD e.on true with
    |true=>rfl
    |false=>rw [((ha _).1 hx).1]at h1;cases h1
   ·by_cases hoff:tj ops rs d
    ·rw [hT d hoff]
     by_cases hl:o.dst=some d
     ·right
      rw [hM v d hl]
      unfold put
      rw [hl]
      simpa using hv
     ·rw [hD v d hl,qW _ _ hl]
      rcases M.tm d with⟨j,hj,hjun,o',hm,hu⟩|h1
      ·left
       refine⟨j,List.mem_append_left _ hj,(hf j).2 ⟨hjun,fun e=> ?_⟩,o',hm,hu⟩
       subst e
       rw [ho]at hm
       cases hm
       exact hl hu
      ·exact .inr (RV.stepG hh hH.1 M.st.hp h1)
    ·left
     unfold tj at hoff
     simp only [Classical.not_forall,Classical.not_not]at hoff
     obtain⟨j,hj,o',hm,hu⟩:=hoff
     obtain⟨h1,h2⟩:=(ha j).1 (z3 j hj).1
     exact⟨j,List.mem_append_right _ hj,(hf j).2 ⟨M.sub j h1,h2⟩,o',hm,hu⟩
theorem zW{β:BP}{n0:Nat}{id:Nat}{l:List Oper}(rs:List Nat)(t:ZT)(hm:P.follows .mixedOrders=true)(hok:eb N l.toArray=true)(hz:zOk l.toArray rs t=true)
  (hs:∃ha,(∀d,tj l.toArray rs d->ha d=T d)/\y9 P l.toArray rs ha h/\uc P l.toArray (Q .normal) t rs ha h):VC P n0 N (.region id l.toArray true) Q T h:=fun F w0 m0 h0 a w m hn r=>by
 unfold eb at hok
 simp only [zqs]at hok
 unfold zOk at hz
 simp only [zqs]at hz
 obtain⟨hb,hz⟩:=hz
 split at hz
 ·rename_i Lc hLc
  obtain⟨ha,hT,hi,hq⟩:=hs
  refine wp_region_any hm ?_
  have hc:=de.drew r.st.hp
  obtain⟨z1,z2,z3,z4⟩:=jU rs _ Lc (by simp) hLc
  have hf:∀j,(Array.replicate l.toArray.size false).getD j true=false↔j<l.toArray.size:=fun j=>by
   constructor
   ·intro h
    have:=lk h
    simpa using this
   ·intro h
    exact getD_in (by simpa using h) (getD_replicate_false _ _)
  refine u6 (F0:=F) (Q:=Q) hb hok.1 hok.2 l.toArray.size t rs Lc _ (List.range l.toArray.size) ha h F a _ m (by simp) hz hi (dx.refl _ _ _ _) ⟨by simp,z1,fun j hj=>((z2 j).1 hj).1,fun j hj he=> ?_,fun j hj=>⟨?_,(z3 j hj).2⟩,z4 fun j o' hj hd=> ?_,List.nodup_range,fun j=>by rw [List.mem_range,hf];exact⟨fun h=>⟨h,h⟩,fun h=>h.1⟩,fun d=> ?_,r.st.trans hc,r.df,r.sz⟩ hq
  ·refine Classical.not_not.1 fun hh=> ?_
   rw [(z2 j).2 ⟨hj,hh⟩]at he
   cases he
  ·cases hx:Lc.getD j true with
   |true=>rfl
   |false=>exact(((z2 j).1 hx).2 hj).elim
  ·rw [(hf j).2 (Array.getElem?_eq_some_iff.1 hd).1]at hj
   cases hj
  ·by_cases hoff:tj l.toArray rs d
   ·rw [hT d hoff]
    exact .inr (RV.step hc r.st.hp (r.tm d))
   ·left
    unfold tj at hoff
    simp only [Classical.not_forall,Classical.not_not]at hoff
    obtain⟨j,hj,o',hd,hg⟩:=hoff
    exact⟨j,hj,(z3 j hj).1,o',hd,hg⟩
 ·cases hz
end
def ur(g:Gd)(tab:List (TypeId×TI))(ops:List Oper)(Q:List (Nat×AV)->EH->Prop):List Nat->List (Nat×AV)->EH->Prop
 | [],l,h=>Q l h
 |j::rs,l,h=>match nth ops j with
  |some o=>jg g tab ops (fun l' h'=>h'=h/\ur g tab ops Q rs l' h) [o] 1 l h
  |none=>False
def Dt(g:Gd)(tab:List (TypeId×TI))(ops:List Oper):List Nat->List (Nat×AV)->EH->Prop
 | [],_,_=>True
 |j::D,l,h=>(match nth ops j with
  |some o=>jg g tab ops (fun l' h'=>h'=h/\(match o.dst with|some d=>lkT l' d=lkT l d|none=>True)) [o] 1 l h
  |none=>False)/\Dt g tab ops D l h
def De(g:Gd)(tab:List (TypeId×TI))(ops:List Oper)(Q:List (Nat×AV)->EH->Prop):ZT->List Nat->List (Nat×AV)->EH->Prop
 | .done,_,l,h=>Q l h
 | .none,_,_,_=>True
 | .op i rs t r,D,l,h=>(match nth ops i with
  |some o=>jg g tab ops (fun l1 h1=>ur g tab ops (fun l2 h2=>Dt g tab ops (D++rs) l2 h2/\De g tab ops Q t (D++rs) l2 h2) rs l1 h1) [o] 0 l h
  |none=>False)/\De g tab ops Q r D l h
def Ca(g:Gd)(tab:List (TypeId×TI))(ops:List Oper)(rs:List Nat)(t:ZT)(Q:List (Nat×AV)->EH->Prop)(l:List (Nat×AV))(h:EH):Prop:=
 ur g tab ops (fun l2 h2=>Dt g tab ops rs l2 h2/\De g tab ops Q t rs l2 h2) rs l h
section
variable {P:Program}{n0 N:Nat}{tab:List (TypeId × TI)}
variable {l:List (Nat×AV)}
theorem tF{β:BP}(hf:ep P tab){ops:Array Oper}{Q:List (Nat×AV)->EH->Prop}{o:Oper}{h:EH}(hp:jg (G0 P n0 N) tab ops.toList Q [o] 1 l h):jm P ops (QH Q) [o] (lkT l) (toH h):=by
 have:=bG hf [o] 1 l h hp
 exact this
theorem gD{β:BP}(hf:ep P tab){ops:Array Oper}{Q:List (Nat×AV)->EH->Prop}:∀(rs:List Nat)(l:List (Nat×AV))(h:EH),ur (G0 P n0 N) tab ops.toList Q rs l h->∃l2,(∀d,tj ops rs d->lkT l2 d=lkT l d)/\Q l2 h
 | [],l,h,hp=>⟨l,fun _ _=>rfl,hp⟩
 |j::rs,l,h,hp=>by
  unfold ur at hp
  split at hp
  ·rename_i o ho
   rw [ee,Array.getElem?_toList]at ho
   have h1:=tF hf hp
   unfold jm at h1
   have hb:∃v l',put (lkT l) o.dst v=lkT l'/\ur (G0 P n0 N) tab ops.toList Q rs l' h:=by
    rcases tG h1 with⟨_,res,rows,_,l',eh,e1,e2,e3,hr⟩|⟨_,l',eh,e1,e2,e3,hr⟩
    ·exact⟨_,l',e1,hr⟩
    ·exact⟨_,l',e1,hr⟩
   obtain⟨v,l',e1,hr⟩:=hb
   obtain⟨l2,h2,h3⟩:=gD hf rs l' h hr
   refine⟨l2,fun d hd=> ?_,h3⟩
   rw [h2 d fun i hi o' ha=>hd i (List.mem_cons_of_mem _ hi) o' ha,<-e1]
   exact qW _ _ (hd j (List.mem_cons_self ..) o ho)
  ·exact hp.elim
theorem jd{β:BP}(hf:ep P tab){ops:Array Oper}:∀(D:List Nat)(l:List (Nat×AV))(h:EH),Dt (G0 P n0 N) tab ops.toList D l h->y9 P ops D (lkT l) (toH h)
 | [],l,h,hp=>fun i hi=>by simp at hi
 |j::D,l,h,hp=>fun i hi o ho=>by
  obtain⟨h1,h2⟩:=hp
  rcases List.mem_cons.1 hi with rfl|hi
  ·split at h1
   ·rename_i o' ho'
    rw [ee,Array.getElem?_toList,ho]at ho'
    cases ho'
    have h3:=tF hf h1
    unfold B9
    unfold jm at h3⊢
    have fin:∀T' h',QH (fun l' h'=>h'=h/\(match o.dst with|some d=>lkT l' d=lkT l d|none=>True)) T' h'->h'=toH h/\∀d,o.dst=some d->T' d=lkT l d:=fun T' h'⟨l',eh,e1,e2,e3,e4⟩=>by
     subst e1 e2 e3
     refine⟨rfl,fun d hd=> ?_⟩
     rw [hd]at e4
     exact e4
    exact yn (fun⟨res,rows,a1,a2⟩=>⟨res,rows,a1,fin _ _ a2⟩) (fun a2=>fin _ _ a2) h3
   ·exact h1.elim
  ·exact jd hf D l h h2 i hi o ho
theorem i5{β:BP}(hf:ep P tab){ops:Array Oper}{Q:List (Nat×AV)->EH->Prop}:∀(t:ZT)(D:List Nat)(l:List (Nat×AV))(h:EH),De (G0 P n0 N) tab ops.toList Q t D l h->uc P ops (QH Q) t D (lkT l) (toH h)
 | .done,D,l,h,hp=>⟨l,h,rfl,rfl,hp⟩
 | .none,_,_,_,_=>trivial
 | .op i rs t r,D,l,h,hp=>by
  obtain⟨h1,h2⟩:=hp
  refine⟨?_,i5 hf r D l h h2⟩
  split at h1
  ·rename_i o ho
   rw [ee,Array.getElem?_toList]at ho
   have h3:=bG hf [o] 0 l h h1
   refine⟨o,_,ho,h3,fun T' h' hk=> ?_⟩
   obtain⟨l',eh,rfl,rfl,hq⟩:=hk
   obtain⟨l2,ha,hc,hr⟩:=gD hf rs l' eh hq
   exact⟨lkT l2,ha,jd hf _ l2 eh hc,i5 hf t _ l2 eh hr⟩
  ·exact h1.elim
theorem wN{β:BP}{g:Gd}{hd:HF}(hg:g=G0 P n0 N)(hhd:hd=hd0 P n0 N)(hfit:ep P tab){id:Nat}{os:List Oper}(rs:List Nat)(t:ZT)(hok:eb N os.toArray=true)(hz:zOk os.toArray rs t=true){Q:Exit->List (Nat×AV)->EH->Prop}{h:EH}
  {S:Type} (ok:S->Prop) (l2:S->List (Nat×AV)) (h2:S->EH) (hp:∀B:List (Nat×AV)->EH->Prop,(∀s,ok s->∀l' h',je n0 N (lkT l') (toH h') (l2 s) (toH (h2 s))->B l' h')->Ca g tab os rs t B l h) (hq:∀s,ok s->Q .normal (l2 s) (h2 s)):hd (.region id os.toArray true) Q l h:=by
 subst hhd hg
 have h1:=hp (fun l' h'=>∃s,ok s/\je n0 N (lkT l') (toH h') (l2 s) (toH (h2 s))) fun s hs l' h' hw=>⟨s,hs,hw⟩
 obtain⟨l3,hb,hc,hr⟩:=gD (ops:=os.toArray) hfit rs l h h1
 have he:=zW (P:=P) (n0:=n0) (id:=id) (Q:=fun e T h=>match e with| .normal=>QH (fun l' h'=>∃s,ok s/\je n0 N (lkT l') (toH h') (l2 s) (toH (h2 s))) T h|_=>False) rs t hfit.mix hok hz ⟨lkT l3,hb,jd hfit rs l3 h hc,i5 hfit t rs l3 h hr⟩
 intro F w0 m0 h0 a w m hn r
 refine Code.wp_mono (fun e a' w'⟨T',h',m',F1,hw,hG,r'⟩=> ?_) (he F w0 m0 h0 a w m hn r)
 cases e<;>first|exact hw.elim|skip
 obtain⟨l',eh,e1,e2,s,hs,hw⟩:=hw
 subst e1 e2
 obtain⟨F2,m2,ha,r2⟩:=hw F1 w0 m0 h0 a' w' m' hn r'
 exact⟨_,_,m2,F2,⟨l2 s,h2 s,rfl,rfl,hq s hs⟩,hG.comp ha,r2⟩
end
def AF(T:Nat->AV):List (Nat×AV)->Prop
 | []=>True
 |(d,v)::l=>T d=v/\AF T l
theorem tu{T:Nat->AV}:∀(l:List (Nat×AV)),AF T l->∀d,lkT l d= .t (.c .dead)\/lkT l d=T d
 | [],_,d=> .inl rfl
 |(k,v)::l,h,d=>by
  unfold lkT
  split
  ·rename_i hb
   rw [hb]
   exact .inr h.1.symm
  ·exact tu l h.2 d
def AO:EH->EH->Prop
 | [],[]=>True
 |e'::l',e::l=>(e'=e\/e'= .gn)/\AO l' l
 |_,_=>False
theorem tH:∀{h2 h:EH},AO h2 h->h2.length=h.length/\∀r:Nat,(toH h2)[r]? =(toH h)[r]? \/((toH h2)[r]? =some .gone/\r<h.length)
 | [],[],_=>⟨rfl,fun r=> .inl rfl⟩
 |e'::l',e::l,hg=>by
  obtain⟨h1,h2⟩:=tH hg.2
  refine⟨by simp [h1],fun r=> ?_⟩
  cases r with
  |zero=>
   rcases hg.1 with h3|h3
   ·exact .inl (by simp [toH,h3])
   ·exact .inr ⟨by rw [h3];rfl,by simp⟩
  |succ r=>
   rcases h2 r with h3|⟨h3,h4⟩
   ·exact .inl (by simpa [toH]using h3)
   ·exact .inr ⟨by simpa [toH]using h3,by simp;omega⟩
theorem vo{β:BP}{n0 N:Nat}{T:Nat->AV}{h h2:EH}{l:List (Nat×AV)}(hk:AF T l)(hg:AO h2 h):je n0 N T (toH h) l (toH h2):=fun F w0 m0 h0 a w m hn r=>by
 obtain⟨he,hd⟩:=tH hg
 have hH:=r.st.hp
 have hc:dL m (toH h) m (toH h2):=fun q=>⟨fun h1=>by
  rcases hd q with h3|⟨h3,_⟩
  ·rw [h3];exact h1
  ·exact h3,fun ab h1=>by
  rcases hd q with h3|⟨h3,_⟩
  ·exact .inr ⟨ab,by rw [h3];exact h1,rfl,rfl,rfl⟩
  ·exact .inl h3⟩
 have ha:∀(q:Nat)(ab:AB),(toH h2)[q]? =some (.live ab)->(toH h)[q]? =some (.live ab):=fun q ab h1=>by
  rcases hd q with h3|⟨h3,_⟩
  ·rw [<-h3];exact h1
  ·rw [h3]at h1;cases h1
 have hh:RH F w m (toH h2):=⟨fun q ab h1=>by
  rcases hH.at_ q ab (ha q ab h1)with h2|⟨b,c,h2,h3,h4⟩
  ·exact .inl h2
  ·exact .inr ⟨b,c,h2,h3,RB.ext (fun _ hb=>hb) (fun _ _=>rfl) hc rfl h4⟩,fun q q' ab hf b c c' h1 h2 h3 h4=>hH.inj q q' ab hf b c c' (ha q ab h1) (ha q' hf h2) h3 h4,by rw [hH.len,aQ,aQ,he],hH.old,hH.lo⟩
 refine⟨F,m,dx.refl _ _ _ _,⟨fun d=> ?_,⟨hh,dL.trans r.st.keeps hc,r.st.os,r.st.tape,r.st.output,r.st.size,r.st.blk,fun q ab b c hq hm=>r.st.own q ab b c (ha q ab hq) hm,r.st.szx⟩,r.df,r.sz⟩⟩
 rcases tu l hk d with h1|h1<;>rw [h1]
 ·exact(trivial:RC F w m (toH h2) .dead _)
 ·exact RV.ext (fun _ hb=>hb) (fun _ _=>rfl) hc (r.tm d)
end Go.Proofs.YtckchgoblpgpbaaGreat.Am
