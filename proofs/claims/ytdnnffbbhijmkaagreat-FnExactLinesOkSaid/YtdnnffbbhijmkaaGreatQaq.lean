/- A part of AM, a framework of the prover own: functions of any program as maps of data. -/
import Derived.Test.YtdnnffbbhijmkaaGreatQap
set_option linter.unusedVariables false
set_option linter.unusedSimpArgs false
namespace Go.Proofs.YtdnnffbbhijmkaaGreat.Am
open Go.RowKit
def DL:ZT→List Nat
 | .done=>[]
 | .none=>[]
 | .op _ rs t r=>rs++(DL t++DL r)
def BR(ops:Array Oper)(R:List Nat):Bool:=(List.range ops.size).all fun i=>match ops[i]? with
 |none=>false
 |some o=>(o.after.all fun e=> !Region.binds .any e||decide (e.on<i))&&R.all fun j=>match ops[j]?.bind (·.dst)with
  |none=>true
  |some d=> !(o.looksAt ops).contains d||Region.waitsFor .any ops i j
theorem sK{ops:Array Oper}{R:List Nat}(hB:BR ops R=true){i:Nat}(hi:i<ops.size):∃o,ops[i]? =some o∧(∀e∈o.after,Region.binds .any e=true→e.on<i)∧∀j∈R,∀(o':Oper)(d:Nat),ops[j]? =some o'→o'.dst=some d→d∈o.looksAt ops→Region.waitsFor .any ops i j=true:=by
 unfold BR at hB
 have h1:=List.all_eq_true.1 hB i (List.mem_range.2 hi)
 cases ho:ops[i]? with
 |none=>rw [ho]at h1;cases h1
 |some o=>
  rw [ho]at h1
  simp only [zqs]at h1
  refine⟨o,rfl,fun e he hb=> ?_,fun j hj o' d ho' hd hl=> ?_⟩
  ·have:=Array.all_eq_true_iff_forall_mem.1 h1.1 e he
   simpa [hb]using this
  ·have:=List.all_eq_true.1 h1.2 j hj
   rw [ho']at this
   simp only [Option.bind_some,hd]at this
   simpa [hl]using this
def Gm(ops:Array Oper)(rs:List Nat)(t:ZT):Bool:=BR ops (rs++DL t)&&(match zrd ops rs (Array.replicate ops.size false)with|some L=>zB ops t L (Region.ready .any ops L) true|none=>false)
section
variable {P : Program} {w0 : World} {m0 : AM} {h0 : AH} {N : Nat} {ops : Array Oper}
theorem Cz{β:BP}{Q:(Nat→AV)→AH→Prop}{L:Array Bool}{D:List Nat}{T:Nat→AV}{h:AH}:∀(t:ZT)(al:List Nat)(top:Bool),zB ops t L al top=true→Cv P ops Q t D T h→∀i∈al,∃rs t' L',(∀j∈rs,j∈DL t)∧(∀j∈DL t',j∈DL t)∧zrd ops rs (L.setIfInBounds i true)=some L'∧zB ops t' L' (Region.ready .any ops L') true=true∧
  ∃(o:Oper)(K:(Nat→AV)→AH→Prop),ops[i]? =some o∧su P ops K [o] T h∧∀T' h',K T' h'→∃T'',(∀d,CQ ops rs d→T'' d=T' d)∧Ey P ops (D++rs) T'' h'∧Cv P ops Q t' (D++rs) T'' h'
 | .done,al,top,hB,hq,i,hi=>by
  simp only [zB,zqs,List.isEmpty_iff]at hB
  rw [hB.2]at hi;simp at hi
 | .none,al,top,hB,hq,i,hi=>by
  simp only [zB,zqs,List.isEmpty_iff]at hB
  rw [hB.2]at hi;simp at hi
 | .op j rs t r,al,top,hB,hq,i,hi=>by
  unfold zB at hB
  split at hB
  ·rename_i k al'
   simp only [zqs]at hB
   obtain⟨⟨hjk,hB1⟩,hB2⟩:=hB
   have hjk:j=k:=Nat.eq_of_beq_eq_true hjk
   subst hjk
   obtain⟨h1,h2⟩:=hq
   rcases List.mem_cons.1 hi with rfl|hi
   ·split at hB1
    ·rename_i L' hL'
     exact⟨rs,t,L',fun j hj=>List.mem_append_left _ hj,fun j hj=>List.mem_append_right _ (List.mem_append_left _ hj),hL',hB1,h1⟩
    ·cases hB1
   ·obtain⟨rs',t',L',g1,g2,g3⟩:=Cz r al' false hB2 h2 i hi
    exact⟨rs',t',L',fun j hj=>List.mem_append_right _ (List.mem_append_right _ (g1 j hj)),fun j hj=>List.mem_append_right _ (List.mem_append_right _ (g2 j hj)),g3⟩
  ·cases hB
theorem w8{β:BP}{R:List Nat}{F0:Nat→Prop}{Q:Exit→(Nat→AV)→AH→Prop}(hhead:BR ops R=true)(hg:gN N ops=true)(hd:ops.toList.all (fS N)=true):
  ∀(f:Nat)(t:ZT)(D:List Nat)(Lc L:Array Bool)(W:List Nat)(T:Nat→AV)(h:AH)(F:Nat→Prop)(a:Act)(w:World)(m:AM),W.length=f→(∀j∈D,j∈R)→(∀j∈DL t,j∈R)→zB ops t Lc (Region.ready .any ops Lc) true=true→Ey P ops D T h→fu F0 F w0 m0 h0→GW F w0 m0 h0 N ops D Lc L W T h a w m→
   Cv P ops (Q .normal) t D T h→wpAny P .any ops (ow F0 w0 m0 h0 N Q) f L a w:=by
 have hend:∀(t:ZT)(D:List Nat)(Lc L:Array Bool)(W:List Nat)(T:Nat→AV)(h:AH)(F:Nat→Prop)(a:Act)(w:World)(m:AM),zB ops t Lc (Region.ready .any ops Lc) true=true→fu F0 F w0 m0 h0→GW F w0 m0 h0 N ops D Lc L W T h a w m→Cv P ops (Q .normal) t D T h→Region.ready .any ops L=[]→ow F0 w0 m0 h0 N Q .normal a w:=by
  intro t D Lc L W T h F a w m hB hG M hq hr
  have hU:∀i,L.getD i true=false→Lc.getD i true=false:=by
   have key:∀n i,i<n→L.getD i true=false→Lc.getD i true=true→False:=by
    intro n
    induction n with
    |zero=>intro i hi;omega
    |succ n ih=>
     intro i hi h1 h2
     have hil:i<ops.size:=by rw [←M.sl];exact wM h1
     obtain⟨o,ho,haft,_⟩:=sK hhead hil
     have:i∈Region.ready .any ops L:=mem_ready.2 ⟨h1,o,ho,fun e he hb=>by
      have hlt:=haft e he hb
      cases hx:L.getD e.on true with
      |true=>
       have hel:e.on<L.size:=by rw [M.sl];omega
       simp [Array.getD,hel]at hx⊢
       exact hx
      |false=>exact(ih e.on (by omega) hx (M.down i o h2 ho e he hb)).elim⟩
     rw [hr]at this
     simp at this
   intro i h1
   cases hx:Lc.getD i true with
   |false=>rfl
   |true=>exact(key (i+1) i (by omega) h1 hx).elim
  have hLL:L=Lc:=by
   apply Array.ext_getElem?
   intro i
   by_cases hi:i<ops.size
   ·have hil:i<L.size:=by rw [M.sl];exact hi
    have hic:i<Lc.size:=by rw [M.sc];exact hi
    rw [Array.getElem?_eq_getElem hil,Array.getElem?_eq_getElem hic]
    have e1:L.getD i true=L[i]:=by simp [Array.getD,hil]
    have e2:Lc.getD i true=Lc[i]:=by simp [Array.getD,hic]
    rw [←e1,←e2]
    congr 1
    cases hx:L.getD i true with
    |false=>exact(hU i hx).symm
    |true=>
     cases hy:Lc.getD i true with
     |true=>rfl
     |false=>rw [M.sub i hy]at hx;cases hx
   ·rw [Array.getElem?_eq_none (by rw [M.sl];omega),Array.getElem?_eq_none (by rw [M.sc];omega)]
  rw [←hLL,hr]at hB
  refine⟨T,h,m,F,Es t hB hq,hG,fun d=> ?_,M.st,M.df,M.sz⟩
  rcases M.tm d with⟨i,hi,h1,_⟩|h1
  ·have:=(M.inD i hi).1
   rw [hU i h1]at this
   cases this
  ·exact h1
 intro f
 induction f with
 |zero=>
  intro t D Lc L W T h F a w m hW hDR hRR hB hst hG M hq
  have hn:Region.ready .any ops L=[]:=by
   cases hc:Region.ready .any ops L with
   |nil=>rfl
   |cons x xs=>
    obtain⟨h1,_⟩:=mem_ready.1 (by rw [hc];simp:x∈Region.ready .any ops L)
    have:x∈W:=(M.mem x).2 ⟨by rw [←M.sl];exact wM h1,h1⟩
    rw [zqv hW]at this
    simp at this
  exact⟨hn,hend t D Lc L W T h F a w m hB hG M hq hn⟩
 |succ f ih=>
  intro t D Lc L W T h F a w m hW hDR hRR hB hst hG M hq
  refine⟨fun hn=>hend t D Lc L W T h F a w m hB hG M hq hn,fun i hi=> ?_⟩
  obtain⟨hun,o,ho,hall⟩:=mem_ready.1 hi
  have hil:i<ops.size:=(Array.getElem?_eq_some_iff.1 ho).1
  have hmemo:o∈ops.toList:=zqd (by simpa using ho:ops.toList[i]? =some o)
  have hdo:fS N o=true:=List.all_eq_true.1 hd o hmemo
  have hiW:i∈W:=(M.mem i).2 ⟨hil,hun⟩
  have hWl:(W.erase i).length=f:=by rw [List.length_erase_of_mem hiW,hW];rfl
  obtain⟨o2,ho2,haft,hdep⟩:=sK hhead hil
  rw [ho]at ho2
  cases ho2
  have hlook:∀d,d∈o.looksAt ops→RV F w m h (T d) (a.tmps.getD d undef):=fun d hd'=>by
   rcases M.tm d with⟨j,hj,hjun,o',ho',hjd⟩|h1
   ·have hw:=hdep j (hDR j hj) o' d ho' hjd hd'
    obtain⟨oi,hoi,e,he,hb,hon⟩:=Region.waitsFor_spec hw
    rw [ho]at hoi
    cases hoi
    have h2:=hall e he hb
    rw [hon,getD_both hjun]at h2
    cases h2
   ·exact h1
  have hset:∀j,(L.setIfInBounds i true).getD j true=false↔L.getD j true=false∧j≠i:=fun j=>by
   by_cases hij:i=j
   ·subst hij
    have:i<L.size:=by rw [M.sl];exact hil
    simp [this]
   ·rw [getD_set_ne true hij]
    exact⟨fun h=>⟨h,fun e=>hij e.symm⟩,fun h=>h.1⟩
  have hmem':∀j,j∈W.erase i↔j<ops.size∧(L.setIfInBounds i true).getD j true=false:=fun j=>by
   rw [M.nodup.mem_erase_iff,M.mem j,hset]
   exact⟨fun⟨h1,h2,h3⟩=>⟨h2,h3,h1⟩,fun⟨h1,h2,h3⟩=>⟨h3,h1,h2⟩⟩
  have hput:∀(v:Value)(d:Nat),o.dst=some d→(a.put o.dst v).tmps.getD d undef=v:=fun v d hdd=>by
   rw [eD]
   have hlt:d<N:=by unfold fS at hdo;rw [hdd]at hdo;simpa using hdo
   rw [if_pos ⟨hdd,by rw [M.sz];exact hlt⟩]
  have hput2:∀(v:Value)(d:Nat),o.dst≠some d→(a.put o.dst v).tmps.getD d undef=a.tmps.getD d undef:=fun v d hdd=>by
   rw [eD,if_neg (fun hx=>hdd hx.1)]
  cases hci:Lc.getD i true with
  |true=>
   have hiD:=M.pend i hun hci
   refine Bw hg ho M.st.hp M.sz hlook (hst i hiD o ho) (fun F1 v w' m' h' res hk hG1 hstep hv=> ?_)
   obtain⟨rfl,hTd⟩:=hk
   refine ih t D Lc _ (W.erase i) T h' F1 _ w' m' hWl hDR hRR hB hst (hG.trans M.st hG1) ⟨by simpa using M.sl,M.sc,fun j hj=>(hset j).2 ⟨M.sub j hj,fun e=>by rw [e,hci]at hj;cases hj⟩,fun j hj hj2=>M.pend j ((hset j).1 hj).1 hj2,M.inD,M.down,M.nodup.erase i,hmem',fun d=> ?_,M.st.trans hstep,by rw [eJ];exact M.df,by rw [ib];exact M.sz⟩ hq
   by_cases hdd:o.dst=some d
   ·right
    rw [hput v d hdd,←hTd d hdd]
    unfold put
    rw [hdd]
    simpa using hv
   ·rw [hput2 v d hdd]
    rcases M.tm d with⟨j,hj,hjun,o',ho',hjd⟩|h1
    ·left
     refine⟨j,hj,(hset j).2 ⟨hjun,fun e=> ?_⟩,o',ho',hjd⟩
     subst e
     rw [ho]at ho'
     cases ho'
     exact hdd hjd
    ·exact .inr (RV.stepG hstep hG1.1 M.st.hp h1)
  |false=>
   have hrc:i∈Region.ready .any ops Lc:=mem_ready.2 ⟨hci,o,ho,fun e he hb=>by
    have h1:=hall e he hb
    have hel:e.on<ops.size:=by have:=haft e he hb;omega
    cases hx:Lc.getD e.on true with
    |true=>
     have:e.on<Lc.size:=by rw [M.sc];exact hel
     simp [Array.getD,this]at hx⊢
     exact hx
    |false=>rw [getD_both (M.sub _ hx)]at h1;cases h1⟩
   obtain⟨rs,t',L',hrs,hrt,hz,hB',o2,K,ho2,hs,hK⟩:=Cz t _ true hB hq i hrc
   rw [ho]at ho2
   cases ho2
   refine DD hg ho M.st.hp M.sz hlook hs (fun F1 v w' m' h' res hk hG1 hstep hv=> ?_)
   obtain⟨T'',hT,hst',hq'⟩:=hK _ _ hk
   have hsetc:∀j,(Lc.setIfInBounds i true).getD j true=false↔Lc.getD j true=false∧j≠i:=fun j=>by
    by_cases hij:i=j
    ·subst hij
     have:i<Lc.size:=by rw [M.sc];exact hil
     simp [this]
    ·rw [getD_set_ne true hij]
     exact⟨fun h=>⟨h,fun e=>hij e.symm⟩,fun h=>h.1⟩
   obtain⟨z1,z2,z3,z4⟩:=sX rs _ L' (by simpa using M.sc) hz
   refine ih t' (D++rs) L' _ (W.erase i) T'' h' F1 _ w' m' hWl (fun j hj=>(List.mem_append.1 hj).elim (hDR j) fun h=>hRR j (hrs j h)) (fun j hj=>hRR j (hrt j hj)) hB' hst' (hG.trans M.st hG1) ⟨by simpa using M.sl,z1,fun j hj=> ?_,fun j hj hj2=> ?_,fun j hj=> ?_,z4 fun j o' hj ho' e he hb=> ?_,M.nodup.erase i,hmem',fun d=> ?_,M.st.trans hstep,by rw [eJ];exact M.df,by rw [ib];exact M.sz⟩ hq'
   ·obtain⟨h1,_⟩:=(z2 j).1 hj
    obtain⟨h2,h3⟩:=(hsetc j).1 h1
    exact(hset j).2 ⟨M.sub j h2,h3⟩
   ·obtain⟨h1,h2⟩:=(hset j).1 hj
    by_cases hjr:j∈rs
    ·exact List.mem_append_right _ hjr
    ·refine List.mem_append_left _ (M.pend j h1 ?_)
     cases hx:Lc.getD j true with
     |true=>rfl
     |false=>rw [(z2 j).2 ⟨(hsetc j).2 ⟨hx,h2⟩,hjr⟩]at hj2;cases hj2
   ·rcases List.mem_append.1 hj with h1|h1
    ·obtain⟨h2,h3⟩:=M.inD j h1
     refine⟨?_,h3⟩
     cases hx:L'.getD j true with
     |true=>rfl
     |false=>rw [((hsetc j).1 ((z2 j).1 hx).1).1]at h2;cases h2
    ·refine⟨?_,(z3 j h1).2⟩
     cases hx:L'.getD j true with
     |true=>rfl
     |false=>exact(((z2 j).1 hx).2 h1).elim
   ·have h1:Lc.getD e.on true=true:=by
     by_cases hij:j=i
     ·subst hij
      rw [ho]at ho'
      cases ho'
      have h2:=hall e he hb
      cases hx:Lc.getD e.on true with
      |true=>rfl
      |false=>rw [getD_both (M.sub _ hx)]at h2;cases h2
     ·refine M.down j o' ?_ ho' e he hb
      cases hx:Lc.getD j true with
      |true=>rfl
      |false=>rw [(hsetc j).2 ⟨hx,hij⟩]at hj;cases hj
    cases hx:(Lc.setIfInBounds i true).getD e.on true with
    |true=>rfl
    |false=>rw [((hsetc _).1 hx).1]at h1;cases h1
   ·by_cases hoff:CQ ops rs d
    ·rw [hT d hoff]
     by_cases hdd:o.dst=some d
     ·right
      rw [hput v d hdd]
      unfold put
      rw [hdd]
      simpa using hv
     ·rw [hput2 v d hdd,xC _ _ hdd]
      rcases M.tm d with⟨j,hj,hjun,o',ho',hjd⟩|h1
      ·left
       refine⟨j,List.mem_append_left _ hj,(hset j).2 ⟨hjun,fun e=> ?_⟩,o',ho',hjd⟩
       subst e
       rw [ho]at ho'
       cases ho'
       exact hdd hjd
      ·exact .inr (RV.stepG hstep hG1.1 M.st.hp h1)
    ·left
     unfold CQ at hoff
     simp only [Classical.not_forall,Classical.not_not]at hoff
     obtain⟨j,hj,o',ho',hjd⟩:=hoff
     obtain⟨h1,h2⟩:=(hsetc j).1 (z3 j hj).1
     exact⟨j,List.mem_append_right _ hj,(hset j).2 ⟨M.sub j h1,h2⟩,o',ho',hjd⟩
theorem Bh{β:BP}{n0:Nat}{Q:Exit→(Nat→AV)→AH→Prop}{id:Nat}{l:List Oper}{T:Nat→AV}{h:AH}(rs:List Nat)(t:ZT)(hm:P.follows .mixedOrders=true)(hok:jL N l.toArray=true)(hz:Gm l.toArray rs t=true)
  (hs:∃T'',(∀d,CQ l.toArray rs d→T'' d=T d)∧Ey P l.toArray rs T'' h∧Cv P l.toArray (Q .normal) t rs T'' h):VC P n0 N (.region id l.toArray true) Q T h:=fun F w0 m0 h0 a w m hn r=>by
 unfold jL at hok
 simp only [zqs]at hok
 unfold Gm at hz
 simp only [zqs]at hz
 obtain⟨hhead,hz⟩:=hz
 split at hz
 ·rename_i Lc hLc
  obtain⟨T'',hT,hst,hq⟩:=hs
  refine wp_region_any hm ?_
  have hst0:=ea.drew r.st.hp
  obtain⟨z1,z2,z3,z4⟩:=sX rs _ Lc (by simp) hLc
  have hf:∀j,(Array.replicate l.toArray.size false).getD j true=false↔j<l.toArray.size:=fun j=>by
   constructor
   ·intro h
    have:=wM h
    simpa using this
   ·intro h
    exact getD_in (by simpa using h) (getD_replicate_false _ _)
  refine w8 (F0:=F) (Q:=Q) hhead hok.1 hok.2 l.toArray.size t rs Lc _ (List.range l.toArray.size) T'' h F a _ m (by simp) (fun j hj=>List.mem_append_left _ hj) (fun j hj=>List.mem_append_right _ hj) hz hst (fu.refl _ _ _ _) ⟨by simp,z1,fun j hj=>((z2 j).1 hj).1,fun j hj hj2=> ?_,fun j hj=>⟨?_,(z3 j hj).2⟩,z4 fun j o' hj ho'=> ?_,List.nodup_range,fun j=>by rw [List.mem_range,hf];exact⟨fun h=>⟨h,h⟩,fun h=>h.1⟩,fun d=> ?_,r.st.trans hst0,r.df,r.sz⟩ hq
  ·refine Classical.not_not.1 fun hjr=> ?_
   rw [(z2 j).2 ⟨hj,hjr⟩]at hj2
   cases hj2
  ·cases hx:Lc.getD j true with
   |true=>rfl
   |false=>exact(((z2 j).1 hx).2 hj).elim
  ·rw [(hf j).2 (Array.getElem?_eq_some_iff.1 ho').1]at hj
   cases hj
  ·by_cases hoff:CQ l.toArray rs d
   ·rw [hT d hoff]
    exact .inr (RV.step hst0 r.st.hp (r.tm d))
   ·left
    unfold CQ at hoff
    simp only [Classical.not_forall,Classical.not_not]at hoff
    obtain⟨j,hj,o',ho',hjd⟩:=hoff
    exact⟨j,hj,(z3 j hj).1,o',ho',hjd⟩
 ·cases hz
end
section
variable {P : Program} {n0 N : Nat} {tab : List (TypeId × TI)}
theorem ek{β:BP}{g:Gd}{hd:HF}(hg:g=G0 P n0 N)(hhd:hd=hd0 P n0 N)(hfit:gU P tab){id:Nat}{os:List Oper}(rs:List Nat)(t:ZT)(hok:jL N os.toArray=true)(hz:Gm os.toArray rs t=true){Q:Exit→List (Nat×AV)→EH→Prop}{l:List (Nat×AV)}{h:EH}
  {S:Type} (ok:S→Prop) (l2:S→List (Nat×AV)) (h2:S→EH) (hp:∀B:List (Nat×AV)→EH→Prop,(∀s,ok s→∀l' h',q7 n0 N (lkT l') (toH h') (l2 s) (toH (h2 s))→B l' h')→Gp g tab os rs t B l h) (hq:∀s,ok s→Q .normal (l2 s) (h2 s)):hd (.region id os.toArray true) Q l h:=by
 subst hhd hg
 have h1:=hp (fun l' h'=>∃s,ok s∧q7 n0 N (lkT l') (toH h') (l2 s) (toH (h2 s))) fun s hs l' h' hw=>⟨s,hs,hw⟩
 obtain⟨l3,hl3,hc,hr⟩:=mq (ops:=os.toArray) hfit rs l h h1
 have hvc:=Bh (P:=P) (n0:=n0) (id:=id) (Q:=fun e T h=>match e with| .normal=>QH (fun l' h'=>∃s,ok s∧q7 n0 N (lkT l') (toH h') (l2 s) (toH (h2 s))) T h|_=>False) rs t hfit.mix hok hz ⟨lkT l3,hl3,oq hfit rs l3 h hc,n6 hfit t rs l3 h hr⟩
 intro F w0 m0 h0 a w m hn r
 refine Code.wp_mono (fun e a' w'⟨T',h',m',F1,hw,hG,r'⟩=> ?_) (hvc F w0 m0 h0 a w m hn r)
 cases e<;>first|exact hw.elim|skip
 obtain⟨l',eh,e1,e2,s,hs,hw⟩:=hw
 subst e1 e2
 obtain⟨F2,m2,hG2,r2⟩:=hw F1 w0 m0 h0 a' w' m' hn r'
 exact⟨_,_,m2,F2,⟨l2 s,h2 s,rfl,rfl,hq s hs⟩,hG.comp hG2,r2⟩
end
end Go.Proofs.YtdnnffbbhijmkaaGreat.Am
