/- A part of AM, a framework of the prover own: functions of any program as maps of data. -/
import Derived.Test.YtckchgoblpgpbaaGreatJ8ar
set_option linter.unusedVariables false
set_option linter.unusedSimpArgs false
namespace Go.Proofs.YtckchgoblpgpbaaGreat.Am
open Go.RowKit
def Hw:ZT->List Nat
 | .done=>[]
 | .none=>[]
 | .op _ rs t r=>rs++(Hw t++Hw r)
def Fh(ops:Array Oper)(R:List Nat):Bool:=(List.range ops.size).all fun i=>match ops[i]? with
 |none=>false
 |some o=>(o.after.all fun e=> !Region.binds .any e||decide (e.on<i))&&R.all fun j=>match ops[j]?.bind (·.dst)with
  |none=>true
  |some d=> !(o.looksAt ops).contains d||Region.waitsFor .any ops i j
theorem uZ{ops:Array Oper}{R:List Nat}(hB:Fh ops R=true){i:Nat}(hi:i<ops.size):∃o,ops[i]? =some o/\(∀e∈o.after,Region.binds .any e=true->e.on<i)/\∀j∈R,∀(o':Oper)(d:Nat),ops[j]? =some o'->o'.dst=some d->d∈o.looksAt ops->Region.waitsFor .any ops i j=true:=by
 unfold Fh at hB
 have h1:=zqf.1 hB i (List.mem_range.2 hi)
 cases ho:ops[i]? with
 |none=>rw [ho]at h1;cases h1
 |some o=>
  rw [ho]at h1
  simp only [zqs]at h1
  refine⟨o,rfl,fun e he hb=> ?_,fun j hj o' d ha hd hl=> ?_⟩
  ·have:=Array.all_eq_true_iff_forall_mem.1 h1.1 e he
   simpa [hb]using this
  ·have:=zqf.1 h1.2 j hj
   rw [ha]at this
   simp only [Option.bind_some,hd]at this
   simpa [hl]using this
def Kp(ops:Array Oper)(rs:List Nat)(t:ZT):Bool:=Fh ops (rs++Hw t)&&(match zrd ops rs (Array.replicate ops.size false)with|some L=>zB ops t L (Region.ready .any ops L) true|none=>false)
section
variable {P:Program}{w0:World}{m0:AM}{h0:AH}{N:Nat}{ops:Array Oper}
theorem F6{β:BP}{Q:(Nat->AV)->AH->Prop}{L:Array Bool}{D:List Nat}{T:Nat->AV}{h:AH}:∀(t:ZT)(al:List Nat)(top:Bool),zB ops t L al top=true->FW P ops Q t D T h->∀i∈al,∃rs t' L',(∀j∈rs,j∈Hw t)/\(∀j∈Hw t',j∈Hw t)/\zrd ops rs (L.setIfInBounds i true)=some L'/\zB ops t' L' (Region.ready .any ops L') true=true/\
  ∃(o:Oper)(K:(Nat->AV)->AH->Prop),ops[i]? =some o/\s8 P ops K [o] T h/\∀T' h',K T' h'->∃T'',(∀d,Gn ops rs d->T'' d=T' d)/\IL P ops (D++rs) T'' h'/\FW P ops Q t' (D++rs) T'' h'
 | .done,al,top,hB,hq,i,hi=>by
  simp only [zB,zqs,List.isEmpty_iff]at hB
  rw [hB.2]at hi;simp at hi
 | .none,al,top,hB,hq,i,hi=>by
  simp only [zB,zqs,List.isEmpty_iff]at hB
  rw [hB.2]at hi;simp at hi
 | .op j rs t r,al,top,hB,hq,i,hi=>by
  unfold zB at hB
  split at hB
  ·rename_i k al'
   simp only [zqs]at hB
   obtain⟨⟨hb,ha⟩,hc⟩:=hB
   have hb:j=k:=Nat.eq_of_beq_eq_true hb
   subst hb
   obtain⟨h1,h2⟩:=hq
   rcases zph.1 hi with rfl|hi
   ·split at ha
    ·rename_i L' hL'
     exact⟨rs,t,L',fun j hj=>zpx _ hj,fun j hj=>zpo _ (zpx _ hj),hL',ha,h1⟩
    ·cases ha
   ·obtain⟨hd,t',L',g1,g2,g3⟩:=F6 r al' false hc h2 i hi
    exact⟨hd,t',L',fun j hj=>zpo _ (zpo _ (g1 j hj)),fun j hj=>zpo _ (zpo _ (g2 j hj)),g3⟩
  ·cases hB
variable {Q:Exit->(Nat->AV)->AH->Prop}
theorem zU{β:BP}{R:List Nat}{F0:Nat->Prop}(hhead:Fh ops R=true)(hg:gz N ops=true)(hd:ops.toList.all (fT N)=true):
  ∀(f:Nat)(t:ZT)(D:List Nat)(Lc L:Array Bool)(W:List Nat)(T:Nat->AV)(h:AH)(F:Nat->Prop)(a:Act)(w:World)(m:AM),W.length=f->(∀j∈D,j∈R)->(∀j∈Hw t,j∈R)->zB ops t Lc (Region.ready .any ops Lc) true=true->IL P ops D T h->fJ F0 F w0 m0 h0->K3 F w0 m0 h0 N ops D Lc L W T h a w m->
   FW P ops (Q .normal) t D T h->wpAny P .any ops (kO F0 w0 m0 h0 N Q) f L a w:=by
 have hI:∀(t:ZT)(D:List Nat)(Lc L:Array Bool)(W:List Nat)(T:Nat->AV)(h:AH)(F:Nat->Prop)(a:Act)(w:World)(m:AM),zB ops t Lc (Region.ready .any ops Lc) true=true->fJ F0 F w0 m0 h0->K3 F w0 m0 h0 N ops D Lc L W T h a w m->FW P ops (Q .normal) t D T h->Region.ready .any ops L=[]->kO F0 w0 m0 h0 N Q .normal a w:=by
  intro t D Lc L W T h F a w m hB hG M hq hr
  have hU:∀i,L.getD i true=false->Lc.getD i true=false:=by
   have xj:∀n i,i<n->L.getD i true=false->Lc.getD i true=true->False:=by
    intro n
    induction n with
    |zero=>intro i hi;omega
    |succ n ih=>
     intro i hi h1 h2
     have ht:i<ops.size:=by rw [<-M.sl];exact zA h1
     obtain⟨o,ho,hE,_⟩:=uZ hhead ht
     have:i∈Region.ready .any ops L:=mem_ready.2 ⟨h1,o,ho,fun e he hb=>by
      have h4:=hE e he hb
      cases hx:L.getD e.on true with
      |true=>
       have hS:e.on<L.size:=by rw [M.sl];omega
       simp [Array.getD,hS]at hx⊢
       exact hx
      |false=>exact(ih e.on (by omega) hx (M.down i o h2 ho e he hb)).elim⟩
     rw [hr]at this
     simp at this
   intro i h1
   cases hx:Lc.getD i true with
   |false=>rfl
   |true=>exact(xj (i+1) i (by omega) h1 hx).elim
  have h9:L=Lc:=by
   apply Array.ext_getElem?
   intro i
   by_cases hi:i<ops.size
   ·have ht:i<L.size:=by rw [M.sl];exact hi
    have hZ:i<Lc.size:=by rw [M.sc];exact hi
    rw [Array.getElem?_eq_getElem ht,Array.getElem?_eq_getElem hZ]
    have e1:L.getD i true=L[i]:=by simp [Array.getD,ht]
    have e2:Lc.getD i true=Lc[i]:=by simp [Array.getD,hZ]
    rw [<-e1,<-e2]
    congr 1
    cases hx:L.getD i true with
    |false=>exact(hU i hx).symm
    |true=>
     cases hy:Lc.getD i true with
     |true=>rfl
     |false=>rw [M.sub i hy]at hx;cases hx
   ·rw [Array.getElem?_eq_none (by rw [M.sl];omega),Array.getElem?_eq_none (by rw [M.sc];omega)]
  rw [<-h9,hr]at hB
  refine⟨T,h,m,F,IE t hB hq,hG,fun d=> ?_,M.st,M.df,M.sz⟩
  rcases M.tm d with⟨i,hi,h1,_⟩|h1
  ·have:=(M.inD i hi).1
   rw [hU i h1]at this
   cases this
  ·exact h1
 intro f
 induction f with
 |zero=>
  intro t D Lc L W T h F a w m hW hN hO hB hV hG M hq
  have hn:Region.ready .any ops L=[]:=by
   cases hc:Region.ready .any ops L with
   |nil=>rfl
   |cons x xs=>
    obtain⟨h1,_⟩:=mem_ready.1 (by rw [hc];simp:x∈Region.ready .any ops L)
    have:x∈W:=(M.mem x).2 ⟨by rw [<-M.sl];exact zA h1,h1⟩
    rw [zqv hW]at this
    simp at this
  exact⟨hn,hI t D Lc L W T h F a w m hB hG M hq hn⟩
 |succ f ih=>
  intro t D Lc L W T h F a w m hW hN hO hB hV hG M hq
  refine⟨fun hn=>hI t D Lc L W T h F a w m hB hG M hq hn,fun i hi=> ?_⟩
  obtain⟨h6,o,ho,hF⟩:=mem_ready.1 hi
  have ht:i<ops.size:=(zpj.1 ho).1
  have hJ:o∈ops.toList:=zqd (by simpa using ho:ops.toList[i]? =some o)
  have hR:fT N o=true:=zqf.1 hd o hJ
  have xd:i∈W:=(M.mem i).2 ⟨ht,h6⟩
  have hY:(W.erase i).length=f:=by rw [List.length_erase_of_mem xd,hW];rfl
  obtain⟨o2,hL,hE,hQ⟩:=uZ hhead ht
  rw [ho]at hL
  cases hL
  have hA:∀d,d∈o.looksAt ops->RV F w m h (T d) (a.tmps.getD d undef):=fun d xb=>by
   rcases M.tm d with⟨j,hj,hjun,o',hm,hu⟩|h1
   ·have hw:=hQ j (hN j hj) o' d hm hu xb
    obtain⟨oi,h5,e,he,hb,xe⟩:=Region.waitsFor_spec hw
    rw [ho]at h5
    cases h5
    have h2:=hF e he hb
    rw [xe,getD_both hjun]at h2
    cases h2
   ·exact h1
  have hf:∀j,(L.setIfInBounds i true).getD j true=false↔L.getD j true=false/\j≠i:=fun j=>by
   by_cases hij:i=j
   ·subst hij
    have:i<L.size:=by rw [M.sl];exact ht
    simp [this]
   ·rw [getD_set_ne true hij]
    exact⟨fun h=>⟨h,fun e=>hij e.symm⟩,fun h=>h.1⟩
  have hC:∀j,j∈W.erase i↔j<ops.size/\(L.setIfInBounds i true).getD j true=false:=fun j=>by
   rw [M.nodup.mem_erase_iff,M.mem j,hf]
   exact⟨fun⟨h1,h2,h3⟩=>⟨h2,h3,h1⟩,fun⟨h1,h2,h3⟩=>⟨h3,h1,h2⟩⟩
  have hM:∀(v:Value)(d:Nat),o.dst=some d->(a.put o.dst v).tmps.getD d undef=v:=fun v d hl=>by
   rw [fo]
   have h4:d<N:=by unfold fT at hR;rw [hl]at hR;simpa using hR
   rw [if_pos ⟨hl,by rw [M.sz];exact h4⟩]
  have hD:∀(v:Value)(d:Nat),o.dst≠some d->(a.put o.dst v).tmps.getD d undef=a.tmps.getD d undef:=fun v d hl=>by
   rw [fo,if_neg (fun hx=>hl hx.1)]
  cases hci:Lc.getD i true with
  |true=>
   have xc:=M.pend i h6 hci
   refine EP hg ho M.st.hp M.sz hA (hV i xc o ho) (fun F1 v w' m' h' res hk hH hh hv=> ?_)
   obtain⟨rfl,xa⟩:=hk
   refine ih t D Lc _ (W.erase i) T h' F1 _ w' m' hY hN hO hB hV (hG.trans M.st hH) ⟨by simpa using M.sl,M.sc,fun j hj=>(hf j).2 ⟨M.sub j hj,fun e=>by rw [e,hci]at hj;cases hj⟩,fun j hj hP=>M.pend j ((hf j).1 hj).1 hP,M.inD,M.down,M.nodup.erase i,hC,fun d=> ?_,M.st.trans hh,by rw [eV];exact M.df,by rw [gL];exact M.sz⟩ hq
   by_cases hl:o.dst=some d
   ·right
    rw [hM v d hl,<-xa d hl]
    unfold put
    rw [hl]
    simpa using hv
   ·rw [hD v d hl]
    rcases M.tm d with⟨j,hj,hjun,o',hm,hu⟩|h1
    ·left
     refine⟨j,hj,(hf j).2 ⟨hjun,fun e=> ?_⟩,o',hm,hu⟩
     subst e
     rw [ho]at hm
     cases hm
     exact hl hu
    ·exact .inr (RV.stepG hh hH.1 M.st.hp h1)
  |false=>
   have xg:i∈Region.ready .any ops Lc:=mem_ready.2 ⟨hci,o,ho,fun e he hb=>by
    have h1:=hF e he hb
    have hS:e.on<ops.size:=by have:=hE e he hb;omega
    cases hx:Lc.getD e.on true with
    |true=>
     have:e.on<Lc.size:=by rw [M.sc];exact hS
     simp [Array.getD,this]at hx⊢
     exact hx
    |false=>rw [getD_both (M.sub _ hx)]at h1;cases h1⟩
   obtain⟨rs,t',L',xh,xi,hz,h8,o2,K,hL,hs,hK⟩:=F6 t _ true hB hq i xg
   rw [ho]at hL
   cases hL
   refine Ho hg ho M.st.hp M.sz hA hs (fun F1 v w' m' h' res hk hH hh hv=> ?_)
   obtain⟨h7,hT,hX,xf⟩:=hK _ _ hk
   have ha:∀j,(Lc.setIfInBounds i true).getD j true=false↔Lc.getD j true=false/\j≠i:=fun j=>by
    by_cases hij:i=j
    ·subst hij
     have:i<Lc.size:=by rw [M.sc];exact ht
     simp [this]
    ·rw [getD_set_ne true hij]
     exact⟨fun h=>⟨h,fun e=>hij e.symm⟩,fun h=>h.1⟩
   obtain⟨z1,z2,z3,z4⟩:=vt rs _ L' (by simpa using M.sc) hz
   refine ih t' (D++rs) L' _ (W.erase i) h7 h' F1 _ w' m' hY (fun j hj=>(List.mem_append.1 hj).elim (hN j) fun h=>hO j (xh j h)) (fun j hj=>hO j (xi j hj)) h8 hX (hG.trans M.st hH) ⟨by simpa using M.sl,z1,fun j hj=> ?_,fun j hj hP=> ?_,fun j hj=> ?_,z4 fun j o' hj hm e he hb=> ?_,M.nodup.erase i,hC,fun d=> ?_,M.st.trans hh,by rw [eV];exact M.df,by rw [gL];exact M.sz⟩ xf
   ·obtain⟨h1,_⟩:=(z2 j).1 hj
    obtain⟨h2,h3⟩:=(ha j).1 h1
    exact(hf j).2 ⟨M.sub j h2,h3⟩
   ·obtain⟨h1,h2⟩:=(hf j).1 hj
    by_cases hjr:j∈rs
    ·exact zpo _ hjr
    ·refine zpx _ (M.pend j h1 ?_)
     cases hx:Lc.getD j true with
     |true=>rfl
     |false=>rw [(z2 j).2 ⟨(ha j).2 ⟨hx,h2⟩,hjr⟩]at hP;cases hP
   ·rcases List.mem_append.1 hj with h1|h1
    ·obtain⟨h2,h3⟩:=M.inD j h1
     refine⟨?_,h3⟩
     cases hx:L'.getD j true with
     |true=>rfl
     |false=>rw [((ha j).1 ((z2 j).1 hx).1).1]at h2;cases h2
    ·refine⟨?_,(z3 j h1).2⟩
     cases hx:L'.getD j true with
     |true=>rfl
     |false=>exact(((z2 j).1 hx).2 h1).elim
   ·have h1:Lc.getD e.on true=true:=by
     by_cases hij:j=i
     ·subst hij
      rw [ho]at hm
      cases hm
      have h2:=hF e he hb
      cases hx:Lc.getD e.on true with
      |true=>rfl
      |false=>rw [getD_both (M.sub _ hx)]at h2;cases h2
     ·refine M.down j o' ?_ hm e he hb
      cases hx:Lc.getD j true with
      |true=>rfl
      |false=>rw [(ha j).2 ⟨hx,hij⟩]at hj;cases hj
    cases hx:(Lc.setIfInBounds i true).getD e.on true with
    |true=>rfl
    |false=>rw [((ha _).1 hx).1]at h1;cases h1
   ·by_cases hoff:Gn ops rs d
    ·rw [hT d hoff]
     by_cases hl:o.dst=some d
     ·right
      rw [hM v d hl]
      unfold put
      rw [hl]
      simpa using hv
     ·rw [hD v d hl,AI _ _ hl]
      rcases M.tm d with⟨j,hj,hjun,o',hm,hu⟩|h1
      ·left
       refine⟨j,zpx _ hj,(hf j).2 ⟨hjun,fun e=> ?_⟩,o',hm,hu⟩
       subst e
       rw [ho]at hm
       cases hm
       exact hl hu
      ·exact .inr (RV.stepG hh hH.1 M.st.hp h1)
    ·left
     unfold Gn at hoff
     simp only [Classical.not_forall,Classical.not_not]at hoff
     obtain⟨j,hj,o',hm,hu⟩:=hoff
     obtain⟨h1,h2⟩:=(ha j).1 (z3 j hj).1
     exact⟨j,zpo _ hj,(hf j).2 ⟨M.sub j h1,h2⟩,o',hm,hu⟩
theorem Es{β:BP}{n0:Nat}{id:Nat}{l:List Oper}{T:Nat->AV}{h:AH}(rs:List Nat)(t:ZT)(hm:P.follows .mixedOrders=true)(hok:gg N l.toArray=true)(hz:Kp l.toArray rs t=true)
  (hs:∃ha,(∀d,Gn l.toArray rs d->ha d=T d)/\IL P l.toArray rs ha h/\FW P l.toArray (Q .normal) t rs ha h):VC P n0 N (.region id l.toArray true) Q T h:=fun F w0 m0 h0 a w m hn r=>by
 unfold gg at hok
 simp only [zqs]at hok
 unfold Kp at hz
 simp only [zqs]at hz
 obtain⟨hb,hz⟩:=hz
 split at hz
 ·rename_i Lc hLc
  obtain⟨ha,hT,hi,hq⟩:=hs
  refine wp_region_any hm ?_
  have hc:=dI.drew r.st.hp
  obtain⟨z1,z2,z3,z4⟩:=vt rs _ Lc (by simp) hLc
  have hf:∀j,(Array.replicate l.toArray.size false).getD j true=false↔j<l.toArray.size:=fun j=>by
   constructor
   ·intro h
    have:=zA h
    simpa using this
   ·intro h
    exact getD_in (by simpa using h) (getD_replicate_false _ _)
  refine zU (F0:=F) (Q:=Q) hb hok.1 hok.2 l.toArray.size t rs Lc _ (List.range l.toArray.size) ha h F a _ m (by simp) (fun j hj=>zpx _ hj) (fun j hj=>zpo _ hj) hz hi (fJ.refl _ _ _ _) ⟨by simp,z1,fun j hj=>((z2 j).1 hj).1,fun j hj he=> ?_,fun j hj=>⟨?_,(z3 j hj).2⟩,z4 fun j o' hj hd=> ?_,List.nodup_range,fun j=>by rw [List.mem_range,hf];exact⟨fun h=>⟨h,h⟩,fun h=>h.1⟩,fun d=> ?_,r.st.trans hc,r.df,r.sz⟩ hq
  ·refine Classical.not_not.1 fun hh=> ?_
   rw [(z2 j).2 ⟨hj,hh⟩]at he
   cases he
  ·cases hx:Lc.getD j true with
   |true=>rfl
   |false=>exact(((z2 j).1 hx).2 hj).elim
  ·rw [(hf j).2 (zpj.1 hd).1]at hj
   cases hj
  ·by_cases hoff:Gn l.toArray rs d
   ·rw [hT d hoff]
    exact .inr (RV.step hc r.st.hp (r.tm d))
   ·left
    unfold Gn at hoff
    simp only [Classical.not_forall,Classical.not_not]at hoff
    obtain⟨j,hj,o',hd,hg⟩:=hoff
    exact⟨j,hj,(z3 j hj).1,o',hd,hg⟩
 ·cases hz
end
section
variable {P:Program}{n0 N:Nat}{tab:List (TypeId × TI)}
theorem bP{β:BP}{g:Gd}{hd:HF}(hg:g=G0 P n0 N)(hhd:hd=hd0 P n0 N)(hfit:fL P tab){id:Nat}{os:List Oper}(rs:List Nat)(t:ZT)(hok:gg N os.toArray=true)(hz:Kp os.toArray rs t=true){Q:Exit->List (Nat×AV)->EH->Prop}{l:List (Nat×AV)}{h:EH}
  {S:Type} (ok:S->Prop) (l2:S->List (Nat×AV)) (h2:S->EH) (hp:∀B:List (Nat×AV)->EH->Prop,(∀s,ok s->∀l' h',qN n0 N (lkT l') (toH h') (l2 s) (toH (h2 s))->B l' h')->Ks g tab os rs t B l h) (hq:∀s,ok s->Q .normal (l2 s) (h2 s)):hd (.region id os.toArray true) Q l h:=by
 subst hhd hg
 have h1:=hp (fun l' h'=>∃s,ok s/\qN n0 N (lkT l') (toH h') (l2 s) (toH (h2 s))) fun s hs l' h' hw=>⟨s,hs,hw⟩
 obtain⟨l3,hb,hc,hr⟩:=nC (ops:=os.toArray) hfit rs l h h1
 have he:=Es (P:=P) (n0:=n0) (id:=id) (Q:=fun e T h=>match e with| .normal=>QH (fun l' h'=>∃s,ok s/\qN n0 N (lkT l') (toH h') (l2 s) (toH (h2 s))) T h|_=>False) rs t hfit.mix hok hz ⟨lkT l3,hb,py hfit rs l3 h hc,pf hfit t rs l3 h hr⟩
 intro F w0 m0 h0 a w m hn r
 refine Code.wp_mono (fun e a' w'⟨T',h',m',F1,hw,hG,r'⟩=> ?_) (he F w0 m0 h0 a w m hn r)
 cases e<;>first|exact hw.elim|skip
 obtain⟨l',eh,e1,e2,s,hs,hw⟩:=hw
 subst e1 e2
 obtain⟨F2,m2,ha,r2⟩:=hw F1 w0 m0 h0 a' w' m' hn r'
 exact⟨_,_,m2,F2,⟨l2 s,h2 s,rfl,rfl,hq s hs⟩,hG.comp ha,r2⟩
end
end Go.Proofs.YtckchgoblpgpbaaGreat.Am
