/- A part of AM, a framework of the prover own: functions of any program as maps of data. -/
import Derived.Deep.LoopGhost
import Derived.Test.YtckchgoblpgpbaaGreatJ8ab
set_option linter.unusedVariables false
set_option linter.unusedSimpArgs false
namespace Go.Proofs.YtckchgoblpgpbaaGreat.Am
open Go.RowKit
def GG(ops:Array Oper)(o:Oper)(T:Nat->AV):Option Bool:=
 match o.guard with
 |none=>some true
 |some (g,want)=>match (ops[g]?).bind (·.dst)with
  |some t=>match T t with
   | .t (.c (.imm (.bool b)))=>some (b==want)
   | .t (.c (.imm _))=>some false
   |_=>none
  |none=>some false
variable {ops:Array Oper}{T:Nat->AV}
theorem Bi{o:Oper}{A B:Prop}(hg:grd ops o T A B):(GG ops o T=some true/\A)\/(GG ops o T=some false/\B):=by
 unfold grd at hg
 unfold GG
 cases hgd:o.guard with
 |none=>rw [hgd]at hg;exact .inl ⟨rfl,hg⟩
 |some gw=>
  obtain⟨g,ha⟩:=gw
  rw [hgd]at hg
  simp only at hg⊢
  cases ht:(ops[g]?).bind (·.dst)with
  |none=>rw [ht]at hg;exact .inr ⟨rfl,hg⟩
  |some t=>
   rw [ht]at hg
   simp only at hg⊢
   split at hg
   ·rename_i b hb
    rw [hb]
    simp only
    by_cases hbw:b=ha
    ·exact .inl ⟨by simp [hbw],hg.1 hbw⟩
    ·refine .inr ⟨by simpa using hbw,hg.2 ?_⟩
     cases b<;>cases ha<;>simp_all
   ·rename_i u hnb hu
    rw [hu]
    refine .inr ⟨?_,hg⟩
    cases u<;>first|rfl|(rename_i b;exact(hnb b rfl).elim)
   ·exact hg.elim
variable {h:AH}{F:Nat->Prop}{w:World}{m:AM}
theorem va{o:Oper}{a:Act}{b:Bool}
  (hN:∀g t,o.guard=some g->(ops[g.1]?).bind (·.dst)=some t->t<a.tmps.size) (hT:∀g t,o.guard=some g->(ops[g.1]?).bind (·.dst)=some t->RV F w m h (T t) (a.tmps.getD t undef))
  (hg:GG ops o T=some b):Region.wanted o (yielded ops a.tmps)=b:=by
 have ha:grd ops o T (b=true) (b=false):=by
  unfold GG at hg
  unfold grd
  cases hgd:o.guard with
  |none=>rw [hgd]at hg;cases hg;rfl
  |some gw=>
   obtain⟨g,hb⟩:=gw
   rw [hgd]at hg
   simp only at hg⊢
   cases ht:(ops[g]?).bind (·.dst)with
   |none=>rw [ht]at hg;cases hg;rfl
   |some t=>
    rw [ht]at hg
    simp only at hg⊢
    split at hg
    ·rename_i q hq
     cases hg
     rw [hq]
     exact⟨fun h1=>by simp [h1],fun h1=>by rw [h1];simp⟩
    ·rename_i u hnb hu
     cases hg
     rw [hu]
     cases u<;>first|rfl|(rename_i b;exact(hnb b rfl).elim)
    ·cases hg
 rcases jT hN hT ha with⟨h1,h2⟩|⟨h1,h2⟩
 ·rw [h1,h2]
 ·rw [h1,h2]
def na(P:Program)(ops:Array Oper)(K:(Nat->AV)->AH->Prop):List Oper->(Nat->AV)->AH->Prop
 | [],T,h=>K T h
 |o::os,T,h=>grd ops o T (∃res rows,Ct P T h h.length o.op (fun r s=>r=res/\s=rows)/\na P ops K os (put T o.dst res) (h++rows.map .live)) (na P ops K os (put T o.dst (.t (.c (.imm undef)))) h)
structure s6(P:Program)(ops:Array Oper)(l:List Oper)(T:Nat->AV)(h:AH)(Ts:Nat->Nat->AV)(Hs:Nat->AH)(R:Nat->AV)(Rw:Nat->List AB)(W:Nat->Bool):Prop where
 t0:Ts 0=T
 h0:Hs 0=h
 at_:∀(i:Nat)(o:Oper),l[i]? =some o->GG ops o (Ts i)=some (W i)/\(W i=true->Ct P (Ts i) (Hs i) (Hs i).length o.op (fun r s=>r=R i/\s=Rw i))/\(W i=false->R i= .t (.c (.imm undef))/\Rw i=[])/\
  Ts (i+1)=put (Ts i) o.dst (R i)/\Hs (i+1)=Hs i++(Rw i).map .live
theorem Ad{P:Program}{ops:Array Oper}{K:(Nat->AV)->AH->Prop}:∀(l:List Oper)(T:Nat->AV)(h:AH),na P ops K l T h->∃Ts Hs R Rw W,s6 P ops l T h Ts Hs R Rw W/\K (Ts l.length) (Hs l.length)
 | [],T,h,hh=>⟨fun _=>T,fun _=>h,fun _=> .t (.c .dead),fun _=>[],fun _=>false,⟨rfl,rfl,fun i o hi=>by simp at hi⟩,hh⟩
 |o::os,T,h,hh=>by
  unfold na at hh
  have cons:∀(res:AV)(ha:List AB)(b:Bool),GG ops o T=some b->(b=true->Ct P T h h.length o.op (fun r s=>r=res/\s=ha))->(b=false->res= .t (.c (.imm undef))/\ha=[])->
    na P ops K os (put T o.dst res) (h++ha.map .live)->∃Ts Hs R Rw W,s6 P ops (o::os) T h Ts Hs R Rw W/\K (Ts (o::os).length) (Hs (o::os).length):=by
   intro res ha b hb h1 h2 h3
   obtain⟨Ts,Hs,R,Rw,W,ht,hK⟩:=Ad os _ _ h3
   refine⟨fun i=>match i with|0=>T|i+1=>Ts i,fun i=>match i with|0=>h|i+1=>Hs i,fun i=>match i with|0=>res|i+1=>R i,fun i=>match i with|0=>ha|i+1=>Rw i,fun i=>match i with|0=>b|i+1=>W i,⟨rfl,rfl,fun i o' hi=> ?_⟩,hK⟩
   cases i with
   |zero=>
    simp only [zqw,zqy]at hi
    subst hi
    exact⟨hb,h1,h2,ht.t0,ht.h0⟩
   |succ i=>
    simp only [List.getElem?_cons_succ]at hi
    exact ht.at_ i o' hi
  rcases Bi hh with⟨hb,res,ha,h1,h2⟩|⟨hb,h2⟩
  ·exact cons res ha true hb (fun _=>h1) (fun h=>by cases h) h2
  ·exact cons _ [] false hb (fun h=>by cases h) (fun _=>⟨rfl,rfl⟩) (by simpa using h2)
def Ce(ops:Array Oper)(m:Nat):Bool:=
 (List.range m).all fun i=>match ops[i]? with
  |none=>false
  |some o=>(o.after.all fun e=> !Region.binds .any e||decide (e.on<i))&&
   ((List.range m).all fun j=>match (ops[j]?).bind (·.dst)with
    |none=>true
    |some d=>(i==j||o.dst !=some d)&&(!(o.looksAt ops).contains d||(decide (j<i)&&Region.waitsFor .any ops i j)))
def uB(ops:Array Oper)(m:Nat):Bool:=
 decide (m<=ops.size)&&Ce ops m&&(decide (m=ops.size)||(Region.sinkB .any ops m&&Region.chainB .any ops m))&&
  Region.seqB .any ops (ops.size-m) m ((Array.range ops.size).map fun i=>decide (i<m))
section
variable {F:Nat->Prop}{w w':World}{m m':AM}{h h':AH}{n:Nat}
theorem dI.of_out_at{β:BP}{F1:Nat->Prop}(hH:RH F w m h)(hF1:∀b,F b->F1 b)(hF2:∀b,F1 b->F b\/w.heap.size<=b)(hF3:∀b,F1 b->b<w'.heap.size){res:AV}{rows:List AB}{v:Value}{nb:AM}(ho:Below w.heap.size w w')(hnl:nb.length=rows.length)(hnb:∀(j b c:Nat),nb[j]? =some (some (b,c))->w.heap.size<=b/\b<w'.heap.size/\¬F1 b)
  (hnd:∀(j j' b c c':Nat),nb[j]? =some (some (b,c))->nb[j']? =some (some (b,c'))->j=j')
  (hout:RV F1 w' m' h' res v/\(∀(j:Nat)(ab:AB),rows[j]? =some ab->nb[j]? =some none->ab.es.length=0)/\∀(j:Nat)(ab:AB)(b c:Nat),rows[j]? =some ab->nb[j]? =some (some (b,c))->RB F1 w' m' h' b c ab)
  (hk:fW m h m' h') (hlen:m'.length=h'.length) (hat:∀(r:Nat)(ab:AB),h'[r]? =some (.live ab)->(h[r]? =some (.live ab)/\m'[r]? =m[r]?)\/∃j,r=n+j/\rows[j]? =some ab/\m'[r]? =nb[j]?):
  dI F1 w m h w' m' h':=by
 obtain⟨hv,hd,he⟩:=hout
 have ha:∀b,F b->w'.heap[b]? =w.heap[b]? :=fun b hf=>ho.block b (hH.old b hf)
 refine⟨⟨fun r ab h1=> ?_,fun r r' ab hb b c c' h1 h2 h3 h4=> ?_,hlen,hF3,zpb hH.lo ho.size⟩,hk,ho.os,ho.tape,ho.output,ho.size,fun b hc _=>ho.block b hc,fun r ab b c h1 h2=> ?_⟩
 ·rcases hat r ab h1 with⟨h3,hm⟩|⟨j,rfl,h3,hm⟩
  ·rw [hm]
   rcases hH.at_ r ab h3 with h4|⟨b,c,h4,h5,h6⟩
   ·exact .inl h4
   ·exact .inr ⟨b,c,h4,fun hf=>(hF2 b hf).elim h5 (fun hx=>by have:=(hH.lt h3 h4).2;omega),RB.ext hF1 ha hk (ho.block b (hH.lt h3 h4).2) h6⟩
  ·rw [hm]
   have hg:j<nb.length:=by rw [hnl];exact(zqb.1 h3).1
   cases hq:nb[j]? with
   |none=>rw [List.getElem?_eq_none_iff]at hq;omega
   |some q=>
    cases q with
    |none=>exact .inl ⟨rfl,hd _ _ h3 hq⟩
    |some bc=>
     obtain⟨b,c⟩:=bc
     exact .inr ⟨b,c,rfl,(hnb _ _ _ hq).2.2,he _ _ _ _ h3 hq⟩
 ·rcases hat r ab h1 with⟨h5,hm⟩|⟨j,rfl,h5,hm⟩<;>rcases hat r' hb h2 with⟨g5,gm⟩|⟨j',rfl,g5,gm⟩<;>rw [hm]at h3<;>rw [gm]at h4
  ·exact hH.inj r r' ab hb b c c' h5 g5 h3 h4
  ·have:=(hH.lt h5 h3).2;have:=(hnb _ _ _ h4).1;omega
  ·have:=(hH.lt g5 h4).2;have:=(hnb _ _ _ h3).1;omega
  ·rw [hnd _ _ _ _ _ h3 h4]
 ·rcases hat r ab h1 with⟨h5,hm⟩|⟨j,rfl,h5,hm⟩<;>rw [hm]at h2
  ·exact .inl ⟨r,ab,c,h5,h2⟩
  ·exact .inr (hnb _ _ _ h2).1
end
theorem Gu:∀(l:List Nat),l≠[]->∃i∈l,∀j∈l,i<=j
 | [],h=>absurd rfl h
 | [x],_=>⟨x,by simp,by simp⟩
 |x::y::l,_=>by
  obtain⟨i,hi,hm⟩:=Gu (y::l) (by simp)
  by_cases h:x<=i
  ·refine⟨x,by simp,fun j hj=> ?_⟩
   rcases zph.1 hj with rfl|hj
   ·exact zpk _
   ·exact zpb h (hm j hj)
  ·refine⟨i,zpe _ hi,fun j hj=> ?_⟩
   rcases zph.1 hj with rfl|hj
   ·omega
   ·exact hm j hj
theorem AI(T:Nat->AV)(v:AV){dst:Option Tmp}{d:Nat}(h:dst≠some d):put T dst v d=T d:=by
 unfold put
 cases dst with
 |none=>rfl
 |some e=>simp only;rw [if_neg (fun hx=>h (by rw [hx]))]
variable {α:Type}
def uP(l:List α)(n:Nat)(r:List α):List α:=l.take n++r++l.drop (n+r.length)
theorem mN(l:List α)(n:Nat)(r:List α)(h:n+r.length<=l.length):(uP l n r).length=l.length:=by simp [uP];omega
theorem qU(l:List α)(n:Nat)(r:List α)(h:n+r.length<=l.length)(i:Nat):(uP l n r)[i]? =if n<=i/\i<n+r.length then r[i-n]? else l[i]? :=by
 unfold uP
 by_cases h1:i<n
 ·rw [if_neg (by omega),zqC,zqh (by simp;omega),zpp,if_pos h1]
 ·by_cases h2:i<n+r.length
  ·rw [if_pos (by omega),zqC,zqg (by simp;omega),zqh (by simp;omega)]
   congr 1;simp;omega
  ·rw [if_neg (by omega),zqg (by simp;omega),List.getElem?_drop]
   congr 1;simp;omega
section
variable {P:Program}{F:Nat->Prop}{w0:World}{m0:AM}{h0:AH}{N mm:Nat}{ops:Array Oper}{T:Nat->AV}{h:AH}{Ts:Nat->Nat->AV}{Hs:Nat->AH}{R:Nat->AV}{Rw:Nat->List AB}{W:Nat->Bool}
theorem rd(htr:s6 P ops (ops.toList.take mm) T h Ts Hs R Rw W){i:Nat}(hi:i<mm){o:Oper}(ho:ops[i]? =some o):(ops.toList.take mm)[i]? =some o:=by
 rw [zpp,if_pos hi];simpa using ho
theorem s6.len(htr:s6 P ops (ops.toList.take mm) T h Ts Hs R Rw W)(hle:mm<=ops.size){i:Nat}(hi:i<mm):(Hs (i+1)).length=(Hs i).length+(Rw i).length:=by
 have ho:ops[i]? =some ops[i]:=by simp
 rw [(htr.at_ i _ (rd htr hi ho)).2.2.2.2];simp
theorem s6.mono(htr:s6 P ops (ops.toList.take mm) T h Ts Hs R Rw W)(hle:mm<=ops.size){i:Nat}:∀(d:Nat),i+d<=mm->(Hs i).length<=(Hs (i+d)).length/\∀(r:Nat)(e:AE),(Hs i)[r]? =some e->(Hs (i+d))[r]? =some e
 |0,_=>⟨zpk _,fun r e h=>h⟩
 |d+1,hd=>by
  obtain⟨h1,h2⟩:=htr.mono hle (i:=i) d (by omega)
  have ho:ops[i+d]? =some ops[i+d]:=by simp
  have h3:=(htr.at_ (i+d) _ (rd htr (by omega) ho)).2.2.2.2
  rw [<-Nat.add_assoc,h3]
  refine⟨by simp;omega,fun r e hr=> ?_⟩
  have h4:=h2 r e hr
  rw [zqh (zqb.1 h4).1]
  exact h4
theorem s6.temp(htr:s6 P ops (ops.toList.take mm) T h Ts Hs R Rw W)(hle:mm<=ops.size){i d:Nat}:∀(k:Nat),i+k<=mm->(∀(j:Nat)(o:Oper),i<=j->j<i+k->ops[j]? =some o->o.dst≠some d)->Ts (i+k) d=Ts i d
 |0,_,_=>rfl
 |k+1,hk,hj=>by
  have ho:ops[i+k]? =some ops[i+k]:=by simp
  have h3:=(htr.at_ (i+k) _ (rd htr (by omega) ho)).2.2.2.1
  rw [<-Nat.add_assoc,h3]
  have ha:=hj (i+k) _ (by omega) (by omega) ho
  have h4:=htr.temp hle (i:=i) k (by omega) (fun j o h1 h2 h3=>hj j o h1 (by omega) h3)
  rw [AI _ _ ha]
  exact h4
structure Mid [BP](F:Nat->Prop)(w0:World)(m0:AM)(h0:AH)(N mm:Nat)(ops:Array Oper)(Ts:Nat->Nat->AV)(Hs:Nat->AH)(Rw:Nat->List AB)(listed:Array Bool)(U:List Nat)(a:Act)(w:World)(m:AM)(hS:AH):Prop where
 inv:HeadInv .any ops mm listed
 nodup:U.Nodup
 un:∀i,i∈U↔i<mm/\listed.getD i true=false
 len:hS.length=(Hs mm).length
 same:∀r:Nat,hS[r]? =(Hs mm)[r]? \/∃i∈U,(Hs i).length<=r/\r<(Hs i).length+(Rw i).length
 hole:∀i∈U,∀r:Nat,(Hs i).length<=r->r<(Hs i).length+(Rw i).length->hS[r]? =some .hole
 tm:∀d,(∃i∈U,∃o,ops[i]? =some o/\o.dst=some d)\/RV F w m hS (Ts mm d) (a.tmps.getD d undef)
 st:gD F w0 m0 h0 w m hS
 df:a.defers=[]
 sz:a.tmps.size=N
theorem pr(hB:Ce ops mm=true){i:Nat}(hi:i<mm):∃o,ops[i]? =some o/\(∀e∈o.after,Region.binds .any e=true->e.on<i)/\
  ∀(j:Nat)(o':Oper)(d:Nat),j<mm->ops[j]? =some o'->o'.dst=some d->(i≠j->o.dst≠some d)/\(d∈o.looksAt ops->j<i/\Region.waitsFor .any ops i j=true):=by
 unfold Ce at hB
 have h1:=zqf.1 hB i (List.mem_range.2 hi)
 cases ho:ops[i]? with
 |none=>rw [ho]at h1;cases h1
 |some o=>
  rw [ho]at h1
  simp only [zqs]at h1
  refine⟨o,rfl,fun e he hb=> ?_,fun j o' d hj ha hd=> ?_⟩
  ·have h2:=(Array.all_eq_true'.1 h1.1) e he
   simp only [Bool.or_eq_true,Bool.not_eq_true',zqp]at h2
   rcases h2 with h2|h2
   ·rw [hb]at h2;cases h2
   ·exact h2
  ·have h2:=zqf.1 h1.2 j (List.mem_range.2 hj)
   rw [ha]at h2
   simp only [Option.bind_some,hd,zqs,Bool.or_eq_true,beq_iff_eq,bne_iff_ne,ne_eq,Bool.not_eq_true',zqp]at h2
   refine⟨fun hc hx=> ?_,fun hm=> ?_⟩
   ·rcases h2.1 with h3|h3
    ·exact hc h3
    ·exact h3 hx
   ·rcases h2.2 with h3|h3
    ·have:(o.looksAt ops).contains d=true:=by simpa using hm
     rw [this]at h3;cases h3
    ·exact h3
theorem mQ{o:Oper}{t:Tmp}(h:Operand.tmp t∈o.op.operands):t∈o.looksAt ops:=by
 unfold Oper.looksAt
 exact zpx _ (List.mem_filterMap.2 ⟨.tmp t,by simpa using h,rfl⟩)
theorem kj{o:Oper}{g:Nat×Bool}{t:Tmp}(h:o.guard=some g)(h2:(ops[g.1]?).bind (·.dst)=some t):t∈o.looksAt ops:=by
 unfold Oper.looksAt
 refine zpo _ ?_
 rw [h]
 simp only
 rw [h2]
 simp
theorem Mid.step{β:BP}(htr:s6 P ops (ops.toList.take mm) T h Ts Hs R Rw W)(hle:mm<=ops.size)(hB:Ce ops mm=true)(hg:gz N ops=true)(hd:ops.toList.all (fT N)=true)
  {listed:Array Bool} {U:List Nat} {a:Act} {w:World} {m:AM} {hS:AH} (M:Mid F w0 m0 h0 N mm ops Ts Hs Rw listed U a w m hS) {i:Nat} (hr:i∈Region.ready .any ops listed) (hi:i<mm) {Q':Exit->Act->World->Prop} {K:Act->World->Prop}
  (hK:∀F1 a' w' m' hS',fJ F F1 w m hS->Mid F1 w0 m0 h0 N mm ops Ts Hs Rw (listed.setIfInBounds i true) (U.erase i) a' w' m' hS'->K a' w'):wpOp P ops Q' i K a w:=by
 obtain⟨o,ho,h7,hm⟩:=pr hB hi
 obtain⟨xg,o2,hQ,hG⟩:=mem_ready.1 hr
 rw [ho]at hQ
 cases hQ
 have h9:i∈U:=(M.un i).2 ⟨hi,xg⟩
 obtain⟨h8,hN,hz,h6,hY⟩:=htr.at_ i o (rd htr hi ho)
 have hs:fT N o=true:=zqf.1 hd o (zqd (by simpa using ho:ops.toList[i]? =some o))
 have hv:o∈ops.toList:=zqd (by simpa using ho:ops.toList[i]? =some o)
 have hf:∀d,d∈o.looksAt ops->RV F w m hS (Ts i d) (a.tmps.getD d undef):=fun d ha=>by
  have hD:Ts mm d=Ts i d:=by
   have:=htr.temp hle (i:=i) (d:=d) (mm-i) (by omega) (fun j o' h1 h2 h3 h4=>by
    have:=((hm j o' d (by omega) h3 h4).2 ha).1
    omega)
   rwa [show i+(mm-i)=mm by omega]at this
  rcases M.tm d with⟨j,hjU,o',hj,hjd⟩|h1
  ·obtain⟨hJ,hL⟩:=(M.un j).1 hjU
   obtain⟨_,hw⟩:=(hm j o' d hJ hj hjd).2 ha
   obtain⟨oi,hT,e,he,hb,xd⟩:=Region.waitsFor_spec hw
   rw [ho]at hT
   cases hT
   have h2:=hG e he hb
   rw [xd,getD_both hL]at h2
   cases h2
  ·rwa [hD]at h1
 have hl:Region.wanted o (yielded ops a.tmps)=W i:=va (F:=F) (w:=w) (m:=m) (h:=hS) (fun g t h1 h2=>by rw [M.sz];exact fu hg hv g t h1 h2) (fun g t h1 h2=>hf t (kj h1 h2)) h8
 have hy:=htr.mono hle (i:=i+1) (mm-(i+1)) (by omega)
 rw [show i+1+(mm-(i+1))=mm by omega]at hy
 have ht:=htr.len hle hi
 have hA:(Hs i).length+(Rw i).length<=hS.length:=by rw [M.len];omega
 have hD:∀d,o.dst=some d->Ts mm d=R i:=fun d ha=>by
  have:=htr.temp hle (i:=i+1) (d:=d) (mm-(i+1)) (by omega) (fun j o' h1 h2 h3 h4=>by
   exact(hm j o' d (by omega) h3 h4).1 (by omega) ha)
  rw [show i+1+(mm-(i+1))=mm by omega]at this
  rw [this,h6]
  unfold put
  rw [ha]
  simp
 have hC:=M.inv.set hr hi
 have hV:∀j,j∈U.erase i↔j<mm/\(listed.setIfInBounds i true).getD j true=false:=fun j=>by
  rw [M.nodup.mem_erase_iff,M.un j]
  by_cases hij:i=j
  ·subst hij
   have xa:i<listed.size:=by rw [M.inv.size];exact(zpj.1 ho).1
   simp [xa]
  ·rw [getD_set_ne true hij]
   exact⟨fun⟨_,h2⟩=>h2,fun h2=>⟨fun e=>hij e.symm,h2⟩⟩
 have hI:∀j,j∈U.erase i->∀r,(Hs j).length<=r->r<(Hs j).length+(Rw j).length->r<(Hs i).length\/(Hs i).length+(Rw i).length<=r:=fun j hj r h1 h2=>by
  rw [M.nodup.mem_erase_iff]at hj
  have hJ:=((M.un j).1 hj.2).1
  rcases Nat.lt_or_gt_of_ne hj.1 with hu|hu
  ·have h3:=(htr.mono hle (i:=j+1) (i-(j+1)) (by omega)).1
   rw [show j+1+(i-(j+1))=i by omega,htr.len hle hJ]at h3
   omega
  ·have h3:=(htr.mono hle (i:=i+1) (j-(i+1)) (by omega)).1
   rw [show i+1+(j-(i+1))=j by omega,ht]at h3
   omega
 unfold wpOp
 rw [ho]
 simp only
 cases hWi:W i with
 |false=>
  rw [hl,hWi]
  simp only [Bool.false_eq_true,if_false]
  obtain⟨hR,hZ⟩:=hz hWi
  refine hK F _ _ m hS (fJ.refl _ _ _ _) ⟨hC,M.nodup.erase i,hV,M.len,fun r=> ?_,fun j hj r h1 h2=>M.hole j (List.mem_of_mem_erase hj) r h1 h2,fun d=> ?_,M.st,by rw [eV];exact M.df,by rw [gL];exact M.sz⟩
  ·rcases M.same r with h1|⟨j,hj,h1,h2⟩
   ·exact .inl h1
   ·by_cases hij:j=i
    ·subst hij;rw [hZ]at h2;simp at h2;omega
    ·exact .inr ⟨j,(M.nodup.mem_erase_iff).2 ⟨hij,hj⟩,h1,h2⟩
  ·by_cases hdd:o.dst=some d
   ·right
    rw [fo]
    have hu:d<N:=by unfold fT at hs;rw [hdd]at hs;simpa using hs
    rw [if_pos ⟨hdd,by rw [M.sz];exact hu⟩,hD d hdd,hR]
    rfl
   ·rw [fo,if_neg (fun hx=>hdd hx.1)]
    rcases M.tm d with⟨j,hj,o',ho',hjd⟩|h1
    ·left
     refine⟨j,(M.nodup.mem_erase_iff).2 ⟨fun e=> ?_,hj⟩,o',ho',hjd⟩
     subst e
     rw [ho]at ho'
     cases ho'
     exact hdd hjd
    ·exact .inr h1
 |true=>
  rw [hl,hWi]
  simp only [if_true]
  left
  have hW:Cp (Hs i) hS:=fun r ab hq=>by
   have h1:=(htr.mono hle (i:=i) (mm-i) (by omega)).2 r _ hq
   rw [show i+(mm-i)=mm by omega]at h1
   rcases M.same r with h2|⟨j,hj,h2,h3⟩
   ·rw [h2,h1]
    exact⟨(by intro he;cases he),(fun hO he=>by cases he;rfl)⟩
   ·rw [M.hole j hj r h2 h3]
    exact⟨(by intro he;cases he),(fun hO he=>by cases he)⟩
  have h5:RTm F w m hS (fun d=>if d∈o.looksAt ops then Ts i d else .t (.c .dead)) a:=fun d=>by
   by_cases ha:d∈o.looksAt ops
   ·simp only [ha,if_true];exact hf d ha
   ·simp only [ha,if_false];exact(trivial:RC F w m hS .dead _)
  have xe:=pi (T':=fun d=>if d∈o.looksAt ops then Ts i d else .t (.c .dead)) (fun x hx=>by
   cases x with
   |tmp t=>simp only [ev,mQ (ops:=ops) hx,if_true]
   |const v=>rfl
   |global g=>rfl
   |func f=>rfl) (hN hWi)
  refine(ph o hW h5 M.st.hp xe).wp (fun v w'⟨res,rows,⟨hres,hrows⟩,hout⟩=> ?_)
  subst hres
  subst hrows
  obtain⟨F1,hF,hP,hX,hH,nb,hE,xb,xc,hn⟩:=hout
  have hM:m.length=hS.length:=M.st.hp.len
  have gh:∀r,(uP hS (Hs i).length ((Rw i).map AE.live))[r]? =if(Hs i).length<=r/\r<(Hs i).length+(Rw i).length then((Rw i).map AE.live)[r-(Hs i).length]? else hS[r]? :=fun r=>by
   have:=qU hS (Hs i).length ((Rw i).map AE.live) (by simpa using hA) r
   simpa using this
  have gm:∀r,(uP m (Hs i).length nb)[r]? =if(Hs i).length<=r/\r<(Hs i).length+(Rw i).length then nb[r-(Hs i).length]? else m[r]? :=fun r=>by
   have:=qU m (Hs i).length nb (by rw [hE,hM];exact hA) r
   rw [hE]at this
   exact this
  have hc:fW m hS (uP m (Hs i).length nb) (uP hS (Hs i).length ((Rw i).map AE.live)):=fun r=>by
   rw [gh r,gm r]
   by_cases hin:(Hs i).length<=r/\r<(Hs i).length+(Rw i).length
   ·have:=M.hole i h9 r hin.1 hin.2
    rw [this]
    exact⟨(fun h1=>by cases h1),(fun ab h1=>by cases h1)⟩
   ·rw [if_neg hin,if_neg hin]
    exact⟨id,fun ab h1=> .inr ⟨ab,h1,rfl,rfl,rfl⟩⟩
  have xf:∀(j:Nat)(ab:AB),(Rw i)[j]? =some ab->(uP hS (Hs i).length ((Rw i).map AE.live))[(Hs i).length+j]? =some (.live ab)/\(uP m (Hs i).length nb)[(Hs i).length+j]? =nb[j]? :=fun j ab hj=>by
   have xh:=(zqb.1 hj).1
   rw [gh,gm,if_pos (by omega),if_pos (by omega),Nat.add_sub_cancel_left]
   exact⟨by simp [hj],rfl⟩
  have hh:=hn _ _ hc xf
  have hk:dI F1 w m hS w' (uP m (Hs i).length nb) (uP hS (Hs i).length ((Rw i).map AE.live)):=by
   refine dI.of_out_at (n:=(Hs i).length) M.st.hp hF hP hX hH hE xb xc hh hc (by rw [mN _ _ _ (by rw [hE,hM];exact hA),mN _ _ _ (by simpa using hA)];exact hM) (fun r ab hq=> ?_)
   rw [gh r]at hq
   rw [gm r]
   by_cases hin:(Hs i).length<=r/\r<(Hs i).length+(Rw i).length
   ·right
    rw [if_pos hin]at hq
    rw [if_pos hin]
    obtain⟨hO,h1,h2⟩:=AA hq
    cases h2
    exact⟨r-(Hs i).length,by omega,h1,rfl⟩
   ·left
    rw [if_neg hin]at hq
    rw [if_neg hin]
    exact⟨hq,rfl⟩
  refine hK F1 _ _ _ _ ⟨hF,fun b hb=>(hP b hb).imp id .inl⟩ ⟨hC,M.nodup.erase i,hV,by rw [mN _ _ _ (by simpa using hA)];exact M.len,fun r=> ?_,fun j hj r h1 h2=> ?_,fun d=> ?_,M.st.trans hk,by rw [eV];exact M.df,by rw [gL];exact M.sz⟩
  ·rw [gh r]
   by_cases hin:(Hs i).length<=r/\r<(Hs i).length+(Rw i).length
   ·left
    rw [if_pos hin]
    have hU:r-(Hs i).length<((Rw i).map AE.live).length:=by simp;omega
    rw [zqc hU]
    refine(hy.2 r _ ?_).symm
    rw [hY,zqg hin.1,zqc hU]
   ·rw [if_neg hin]
    rcases M.same r with h1|⟨j,hj,h1,h2⟩
    ·exact .inl h1
    ·by_cases hij:j=i
     ·subst hij;exact(hin ⟨h1,h2⟩).elim
     ·exact .inr ⟨j,(M.nodup.mem_erase_iff).2 ⟨hij,hj⟩,h1,h2⟩
  ·rw [gh r,if_neg (by have:=hI j hj r h1 h2;omega)]
   exact M.hole j (List.mem_of_mem_erase hj) r h1 h2
  ·by_cases hdd:o.dst=some d
   ·right
    rw [fo]
    have hu:d<N:=by unfold fT at hs;rw [hdd]at hs;simpa using hs
    rw [if_pos ⟨hdd,by rw [M.sz];exact hu⟩,hD d hdd]
    exact hh.1
   ·rw [fo,if_neg (fun hx=>hdd hx.1)]
    rcases M.tm d with⟨j,hj,o',ho',hjd⟩|h1
    ·left
     refine⟨j,(M.nodup.mem_erase_iff).2 ⟨fun e=> ?_,hj⟩,o',ho',hjd⟩
     subst e
     rw [ho]at ho'
     cases ho'
     exact hdd hjd
    ·exact .inr (RV.stepG hk hF M.st.hp h1)
end
section
variable {P:Program}{F:Nat->Prop}{w0:World}{m0:AM}{h0:AH}{N mm:Nat}{ops:Array Oper}{T:Nat->AV}{h:AH}{Ts:Nat->Nat->AV}{Hs:Nat->AH}{R:Nat->AV}{Rw:Nat->List AB}{W:Nat->Bool}
variable {Q:Exit->(Nat->AV)->AH->Prop}
theorem D7{β:BP}{F0:Nat->Prop}(hB:uB ops mm=true)(hg:gz N ops=true)(hd:ops.toList.all (fT N)=true)(htr:s6 P ops (ops.toList.take mm) T h Ts Hs R Rw W)
  (htail:s8 P ops (Q .normal) (ops.toList.drop mm) (Ts mm) (Hs mm)):
  ∀(f:Nat)(F:Nat->Prop)(ha:Array Bool)(U:List Nat)(a:Act)(w:World)(m:AM)(hS:AH),fJ F0 F w0 m0 h0->U.length=f->Mid F w0 m0 h0 N mm ops Ts Hs Rw ha U a w m hS->wpAny P .any ops (kO F0 w0 m0 h0 N Q) (f+(ops.size-mm)) ha a w:=by
 unfold uB at hB
 simp only [zqs,Bool.or_eq_true,zqp]at hB
 obtain⟨⟨⟨hC,hc⟩,hE⟩,hr⟩:=hB
 intro f
 induction f with
 |zero=>
  intro F ha U a w m hS hG hU M
  have hv:U=[]:=zqv hU
  subst hv
  have hl:ha=(Array.range ops.size).map fun i=>decide (i<mm):=by
   apply Array.ext_getElem?
   intro i
   by_cases hi:i<ops.size
   ·have hk:i<ha.size:=by rw [M.inv.size];exact hi
    have e2:(((Array.range ops.size).map fun i=>decide (i<mm)):Array Bool)[i]? =some (decide (i<mm)):=by simp [hi]
    rw [e2,Array.getElem?_eq_getElem hk]
    congr 1
    by_cases hf:i<mm
    ·have h1:¬(ha.getD i true=false):=fun hx=>by have:=(M.un i).2 ⟨hf,hx⟩;simp at this
     have:ha.getD i true=ha[i]:=by simp [Array.getD,hk]
     rw [this]at h1
     simp [hf]
     simpa using h1
    ·have h1:=M.inv.tail i (by omega) hi
     have:ha.getD i true=ha[i]:=by simp [Array.getD,hk]
     rw [this]at h1
     simp [hf,h1]
   ·rw [Array.getElem?_eq_none (by rw [M.inv.size];omega),Array.getElem?_eq_none (by simp;omega)]
  have hy:hS=Hs mm:=by
   apply List.ext_getElem?
   intro r
   rcases M.same r with h1|⟨j,hj,_⟩
   ·exact h1
   ·simp at hj
  subst hy
  have hq:Rel F w0 m0 h0 N (Ts mm) (Hs mm) a w m:=⟨fun d=>by
   rcases M.tm d with⟨j,hj,_⟩|h1
   ·simp at hj
   ·exact h1,M.st,M.df,M.sz⟩
  have hh:(ops.toList.drop mm).length=ops.size-mm:=by simp
  have:=wpAny_of_seq (P:=P) (md:= .any) (ops:=ops) (Q':=kO F0 w0 m0 h0 N Q) (ops.toList.drop mm) mm ha a w (fun j=>by simp [List.getElem?_drop]) (by rw [hh,hl];exact hr)
   (iK hg _ F _ _ _ _ _ (fun o ho=>List.mem_of_mem_drop ho) (zqf.2 fun o ho=>zqf.1 hd o (List.mem_of_mem_drop ho)) hG hq htail)
  rw [hh]at this
  simpa using this
 |succ f ih=>
  intro F ha U a w m hS hG hU M
  have hs:U≠[]:=by rintro rfl;simp at hU
  rw [show f+1+(ops.size-mm)=(f+(ops.size-mm))+1 by omega]
  have ht:∀i∈Region.ready .any ops ha,i<mm:=fun i hi=>by
   rcases Nat.lt_or_ge i mm with h1|h1
   ·exact h1
   ·exfalso
    obtain⟨_,oi,hD,_⟩:=mem_ready.1 hi
    have hk:i<ops.size:=(zpj.1 hD).1
    rcases hE with h2|⟨h2,h3⟩
    ·omega
    ·obtain⟨j,hj⟩:=List.exists_mem_of_ne_nil U hs
     obtain⟨hA,hn⟩:=(M.un j).1 hj
     exact tail_waits h2 h3 (by omega) M.inv _ j rfl hA hn i h1 hi
  refine⟨fun h1=> ?_,fun i hi=>Mid.step htr hC hc hg hd M hi (ht i hi) (fun F1 a' w' m' hH hu M'=>ih F1 _ _ _ _ _ _ (hG.trans M.st hu) ?_ M')⟩
  ·exfalso
   obtain⟨i,hi,hp⟩:=Gu U hs
   obtain⟨hf,hF⟩:=(M.un i).1 hi
   obtain⟨o,ho,hm,_⟩:=pr hc hf
   have:i∈Region.ready .any ops ha:=mem_ready.2 ⟨hF,o,ho,fun e he hb=>by
    have h2:=hm e he hb
    have h3:e.on∉U:=fun h4=>by have:=hp _ h4;omega
    rw [M.un]at h3
    have h5:¬ha.getD e.on true=false:=fun h6=>h3 ⟨by omega,h6⟩
    have hw:e.on<ha.size:=by rw [M.inv.size];omega
    simp [Array.getD,hw]at h5⊢
    exact h5⟩
   rw [h1]at this
   cases this
  ·have hz:i∈U:=(M.un i).2 ⟨ht i hi,(mem_ready.1 hi).1⟩
   rw [List.length_erase_of_mem hz,hU]
   rfl
theorem dI.drew{β:BP}{F:Nat->Prop}{w:World}{m:AM}{h:AH}(hH:RH F w m h):dI F w m h {w with drawn:=w.drawn+1} m h:=by
 have hs:=dI.refl hH
 have hk:RH F {w with drawn:=w.drawn+1} m h:=⟨fun r ab h1=>by
  rcases hH.at_ r ab h1 with h2|⟨b,c,h2,h3,h4⟩
  ·exact .inl h2
  ·exact .inr ⟨b,c,h2,h3,RB.ext (w:=w) (w':={w with drawn:=w.drawn+1}) (fun _ hb=>hb) (fun _ _=>rfl) (fW.refl m h) rfl h4⟩,hH.inj,hH.len,hH.old,hH.lo⟩
 exact⟨hk,hs.keeps,rfl,rfl,rfl,zpk _,fun _ _ _=>rfl,hs.own⟩
theorem Cj{β:BP}(hm:P.follows .mixedOrders=true)(hB:uB ops mm=true)(hg:gz N ops=true)(hd:ops.toList.all (fT N)=true){a:Act}{w:World}{m:AM}(r:Rel F w0 m0 h0 N T h a w m)
  (hh:na P ops (fun T h=>s8 P ops (Q .normal) (ops.toList.drop mm) T h) (ops.toList.take mm) T h) (id:Nat):(Code.region id ops true).wp P (kO F w0 m0 h0 N Q) a w:=by
 obtain⟨Ts,Hs,R,Rw,W,hc,hf⟩:=Ad _ _ _ hh
 have ho:=hB
 unfold uB at ho
 simp only [zqs,Bool.or_eq_true,zqp]at ho
 obtain⟨⟨⟨hn,hv⟩,hD⟩,hA⟩:=ho
 have hq:(ops.toList.take mm).length=mm:=by simp;omega
 rw [hq]at hf
 refine wp_region_any hm ?_
 have he:=hc.mono hn (i:=0) mm (by omega)
 rw [Nat.zero_add,hc.h0]at he
 obtain⟨hl,hs⟩:=he
 have hz:=r.st.trans (dI.drew r.st.hp)
 let pad:=(Hs mm).length-h.length
 have hk:fW m h (m++List.replicate pad none) (h++List.replicate pad AE.hole):=mi r.st.hp.len
 have ha:∀(r':Nat)(ab:AB),(h++List.replicate pad AE.hole)[r']? =some (.live ab)->h[r']? =some (.live ab)/\(m++List.replicate pad none)[r']? =m[r']? :=fun r' ab hr=>by
  by_cases hlt:r'<h.length
  ·rw [zqh hlt]at hr
   exact⟨hr,zqh (by rw [r.st.hp.len];exact hlt)⟩
  ·rw [zqg (by omega),List.getElem?_replicate]at hr
   split at hr<;>cases hr
 have hx:dI F {w with drawn:=w.drawn+1} m h {w with drawn:=w.drawn+1} (m++List.replicate pad none) (h++List.replicate pad AE.hole):=by
  have hH:=(dI.drew r.st.hp).hp
  refine⟨⟨fun r' ab h1=> ?_,fun r1 r2 ab hu b c c' h1 h2 h3 h4=> ?_,by simp [r.st.hp.len,pad],hH.old,hH.lo⟩,hk,rfl,rfl,rfl,zpk _,fun _ _ _=>rfl,fun r' ab b c h1 h2=> ?_⟩
  ·obtain⟨h2,h3⟩:=ha r' ab h1
   rw [h3]
   rcases hH.at_ r' ab h2 with h4|⟨b,c,h4,h5,h6⟩
   ·exact .inl h4
   ·exact .inr ⟨b,c,h4,h5,RB.ext (fun _ hb=>hb) (fun _ _=>rfl) hk rfl h6⟩
  ·obtain⟨g1,g2⟩:=ha r1 ab h1
   obtain⟨g3,g4⟩:=ha r2 hu h2
   rw [g2]at h3;rw [g4]at h4
   exact hH.inj r1 r2 ab hu b c c' g1 g3 h3 h4
  ·obtain⟨g1,g2⟩:=ha r' ab h1
   rw [g2]at h2
   exact .inl ⟨r',ab,c,g1,h2⟩
 have hj:∀(k:Nat),k<=mm->∀r':Nat,h.length<=r'->r'<(Hs k).length->∃i,i<k/\(Hs i).length<=r'/\r'<(Hs i).length+(Rw i).length:=by
  intro k
  induction k with
  |zero=>intro _ r' h1 h2;rw [hc.h0]at h2;omega
  |succ k ih=>
   intro hC r' h1 h2
   rw [hc.len hn (by omega)]at h2
   by_cases hlt:r'<(Hs k).length
   ·obtain⟨i,hi,h3⟩:=ih (by omega) r' h1 hlt
    exact⟨i,by omega,h3⟩
   ·exact⟨k,by omega,by omega,h2⟩
 have M:Mid F w0 m0 h0 N mm ops Ts Hs Rw (Array.replicate ops.size false) (List.range mm) a {w with drawn:=w.drawn+1} (m++List.replicate pad none) (h++List.replicate pad AE.hole):=by
  refine⟨⟨by simp,fun j oj _ hl=>(by rw [getD_replicate_false]at hl;cases hl),fun t _ ht=>getD_in (by simpa using ht) (getD_replicate_false _ _)⟩,List.nodup_range,fun i=> ?_,by simp [pad];omega,fun r'=> ?_,fun i hi r' h1 h2=> ?_,fun d=> ?_,hz.trans hx,r.df,r.sz⟩
  ·rw [List.mem_range]
   refine⟨fun h1=>⟨h1,getD_in (by simp;omega) (getD_replicate_false _ _)⟩,fun h1=>h1.1⟩
  ·by_cases hlt:r'<h.length
   ·left
    rw [zqh hlt,zqc hlt]
    exact(hs r' _ (zqc hlt)).symm
   ·by_cases hlt2:r'<(Hs mm).length
    ·right
     obtain⟨i,hi,h3⟩:=hj mm (zpk _) r' (by omega) hlt2
     exact⟨i,List.mem_range.2 hi,h3⟩
    ·left
     rw [zqz (by simp [pad];omega),zqz (by omega)]
  ·have hy:=List.mem_range.1 hi
   have h3:=(hc.mono hn (i:=0) i (by omega)).1
   rw [Nat.zero_add,hc.h0]at h3
   have h4:=(hc.mono hn (i:=i+1) (mm-(i+1)) (by omega)).1
   rw [show i+1+(mm-(i+1))=mm by omega,hc.len hn hy]at h4
   rw [zqg (by omega),List.getElem?_replicate,if_pos (by simp only [pad];omega)]
  ·by_cases hw:∃i∈List.range mm,∃o,ops[i]? =some o/\o.dst=some d
   ·exact .inl hw
   ·right
    have hT:Ts mm d=T d:=by
     have:=hc.temp hn (i:=0) (d:=d) mm (by omega) (fun j o h1 h2 h3 h4=>hw ⟨j,List.mem_range.2 (by omega),o,h3,h4⟩)
     rw [Nat.zero_add,hc.t0]at this
     exact this
    rw [hT]
    exact RV.step ((dI.drew r.st.hp).trans hx) r.st.hp (r.tm d)
 have:=D7 (F0:=F) hB hg hd hc hf _ F _ _ _ _ _ _ (fJ.refl _ _ _ _) rfl M
 rw [List.length_range,show mm+(ops.size-mm)=ops.size by omega]at this
 exact this
end
def VC [BP](P:Program)(n0 N:Nat)(c:Code)(Q:Exit->(Nat->AV)->AH->Prop)(T:Nat->AV)(h:AH):Prop:=
 ∀(F:Nat->Prop)(w0:World)(m0:AM)(h0:AH)(a:Act)(w:World)(m:AM),h0.length=n0->Rel F w0 m0 h0 N T h a w m->c.wp P (kO F w0 m0 h0 N Q) a w
def He(K:(Nat->AV)->AH->Prop)(Q:Exit->(Nat->AV)->AH->Prop):Exit->(Nat->AV)->AH->Prop
 | .normal,T,h=>K T h
 |e,T,h=>Q e T h
def yy(id:Nat)(Q:Exit->(Nat->AV)->AH->Prop):Exit->(Nat->AV)->AH->Prop
 | .exit i,T,h=>if i=id then Q .normal T h else Q (.exit i) T h
 |e,T,h=>Q e T h
section
variable {P:Program}{n0 N:Nat}{Q:Exit->(Nat->AV)->AH->Prop}{T:Nat->AV}{h:AH}
theorem yN{β:BP}(hq:Q .normal T h):VC P n0 N .skip Q T h:=fun F w0 m0 h0 a w m _ r=>wp_skip ⟨T,h,m,F,hq,fJ.refl _ _ _ _,r⟩
theorem CD{β:BP}(hq:Q .ret T h):VC P n0 N .ret Q T h:=fun F w0 m0 h0 a w m _ r=>wp_ret ⟨T,h,m,F,hq,fJ.refl _ _ _ _,r⟩
variable {id:Nat}
theorem yO{β:BP}(hq:Q (.exit id) T h):VC P n0 N (.exit id) Q T h:=fun F w0 m0 h0 a w m _ r=>wp_exit ⟨T,h,m,F,hq,fJ.refl _ _ _ _,r⟩
theorem zZ{β:BP}{x y:Code}(hx:VC P n0 N x (He (VC P n0 N y Q) Q) T h):VC P n0 N (.seq x y) Q T h:=fun F w0 m0 h0 a w m hn r=>
 wp_seq (Code.wp_mono (fun e a' w'⟨T',h',m',F1,hq,hG,r'⟩=>by
  cases e<;>first|exact Code.wp_mono (fun e a w hm=>kO.grow hG hm) (hq F1 w0 m0 h0 a' w' m' hn r')|exact⟨T',h',m',F1,hq,hG,r'⟩) (hx F w0 m0 h0 a w m hn r))
theorem yQ{β:BP}{c:Operand}{x y:Code}{b:Bool}(hc:ev T c= .t (.c (.B b)))(h1:b=true->VC P n0 N x Q T h)(h2:b=false->VC P n0 N y Q T h):VC P n0 N (.cond c x y) Q T h:=fun F w0 m0 h0 a w m hn r=>
 wp_cond_split (t:=b) (fi r.tm hc) (fun hb=>h1 hb F w0 m0 h0 a w m hn r) (fun hb=>h2 hb F w0 m0 h0 a w m hn r)
theorem vx{β:BP}{c:Code}(hx:VC P n0 N c (yy id Q) T h):VC P n0 N (.block id c) Q T h:=fun F w0 m0 h0 a w m hn r=>
 wp_block (Code.wp_mono (fun e a' w'⟨T',h',m',F1,hq,hG,r'⟩=>by
  cases e<;>first
   |exact⟨T',h',m',F1,hq,hG,r'⟩
   |(
    rename_i i
    simp only [yy]at hq
    simp only [Exit.inBlock]
    split at hq
    ·rw [if_pos (by assumption)];exact⟨T',h',m',F1,hq,hG,r'⟩
    ·rw [if_neg (by assumption)];exact⟨T',h',m',F1,hq,hG,r'⟩)) (hx F w0 m0 h0 a w m hn r))
def gg(N:Nat)(ops:Array Oper):Bool:=gz N ops&&ops.toList.all (fT N)
variable {l:List Oper}
theorem rq{β:BP}(hok:gg N l.toArray=true)(hs:s8 P l.toArray (Q .normal) l T h):VC P n0 N (.region id l.toArray false) Q T h:=fun F w0 m0 h0 a w m hn r=>by
 unfold gg at hok
 simp only [zqs]at hok
 exact wp_region_list (iK hok.1 _ F T h a w m (fun o ho=>ho) hok.2 (fJ.refl _ _ _ _) r hs)
theorem yP{β:BP}(mm:Nat)(hm:P.follows .mixedOrders=true)(hok:gg N l.toArray=true)(hB:uB l.toArray mm=true)(hs:na P l.toArray (fun T h=>s8 P l.toArray (Q .normal) (l.drop mm) T h) (l.take mm) T h):
  VC P n0 N (.region id l.toArray true) Q T h:=fun F w0 m0 h0 a w m hn r=>by
 unfold gg at hok
 simp only [zqs]at hok
 exact Cj hm hB hok.1 hok.2 r hs id
theorem fD{β:BP}{c:Code}{Q':Exit->(Nat->AV)->AH->Prop}(hq:∀e T h,Q e T h->Q' e T h)(hv:VC P n0 N c Q T h):VC P n0 N c Q' T h:=fun F w0 m0 h0 a w m hn r=>
 Code.wp_mono (fun e a' w'⟨T',h',m',F1,h1,hG,r'⟩=>⟨T',h',m',F1,hq _ _ _ h1,hG,r'⟩) (hv F w0 m0 h0 a w m hn r)
end
def lkT:List (Nat×AV)->Nat->AV
 | [],_=> .t (.c .dead)
 |(k,v)::l,d=>if d=k then v else lkT l d
def dx:AC->Bool
 | .own _| .sub _ _ _| .ptr _ _ _| .clo _ _=>false
 |_=>true
def rnR(ρ:List (Option Nat))(h':AH):List Nat->List Nat->Prop
 | [],[]=>True
 |i::l',r::l=>(match h'[i]?,ρ[i]? with|some (.live _),some (some j)=>r=j|_,_=>False)/\rnR ρ h' l' l
 |_,_=>False
def rnC(ρ:List (Option Nat))(h':AH)(c' c:AC):Prop:=
 match c' with
 | .dead=>True
 | .own i=>match h'[i]?,ρ[i]? with|some (.live _),some (some j)=>c= .own j|some (.live _),some none=>c= .N|_,_=>False
 | .sub i l n=>match h'[i]?,ρ[i]? with|some (.live _),some (some j)=>c= .sub j l n|_,_=>False
 | .ptr i e o=>match h'[i]?,ρ[i]? with|some (.live _),some (some j)=>c= .ptr j e o|_,_=>False
 | .clo g rs'=>match c with| .clo g' rs=>g=g'/\rnR ρ h' rs' rs|_=>False
 |c'=>c=c'
def rnL(ρ:List (Option Nat))(h':AH):List AC->List AC->Prop
 | [],[]=>True
 |c'::l',c::l=>rnC ρ h' c' c/\rnL ρ h' l' l
 |_,_=>False
def rnE(ρ:List (Option Nat))(h':AH):LLA->LLA->Prop
 | [],[]=>True
 |x'::l',x::l=>rnL ρ h' x' x/\rnE ρ h' l' l
 |_,_=>False
def rnT(ρ:List (Option Nat))(h':AH)(x' x:AT):Prop:=
 match x',x with
 | .c c',.c c=>rnC ρ h' c' c
 | .c .dead,_=>True
 | .agg l',.agg l=>(l'=l/\l.all dx=true)\/rnL ρ h' l' l
 |_,_=>False
def AD(ρ:List (Option Nat))(h':AH):List AT->List AT->Prop
 | [],[]=>True
 |x'::l',x::l=>rnT ρ h' x' x/\AD ρ h' l' l
 |_,_=>False
def rnV(ρ:List (Option Nat))(h':AH)(x' x:AV):Prop:=
 match x',x with
 | .t (.c .dead),_=>True
 | .t x',.t x=>rnT ρ h' x' x
 | .tup l',.tup l=>AD ρ h' l' l
 |_,_=>False
def rnK(ρ:List (Option Nat))(h':AH)(T:Nat->AV):List (Nat×AV)->Prop
 | []=>True
 |(k,v)::l=>rnV ρ h' v (T k)/\rnK ρ h' T l
def rnH(n0:Nat)(ρ:List (Option Nat))(h' h:AH):Nat->AH->Prop
 |_,[]=>True
 |i,e::es=>(i<n0->e= .gone\/ρ[i]? =some (some i))/\(match e with
   | .live ab'=>match ρ[i]? with
    |some none=>ab'.es.length=0
    |some (some j)=>match h[j]? with
     |some (.live ab)=>ab'.ty=ab.ty/\ab'.k=ab.k/\((ab'.es=ab.es/\(ab.es.all fun x=>x.all dx)=true)\/rnE ρ h' ab'.es ab.es)
     |_=>False
    |none=>False
   | .gone=>True
   | .hole=>i<n0->h[i]? =some .hole)/\rnH n0 ρ h' h (i+1) es
def Wk(n0:Nat)(T:Nat->AV)(h:AH)(l:List (Nat×AV))(h':AH)(ρ:List (Option Nat)):Prop:=
 n0<=h'.length/\(∀i,i<n0->h[i]? =some .gone->h'[i]? =some .gone)/\(ρ.filterMap id).Nodup/\rnH n0 ρ h' h 0 h'/\rnK ρ h' T l
section
variable {F:Nat->Prop}{w:World}{m:AM}{h h':AH}{n0:Nat}{ρ:List (Option Nat)}{T:Nat->AV}{l:List (Nat × AV)}
theorem v9{n0:Nat}:∀(es:AH)(i k:Nat)(e:AE),rnH n0 ρ h' h i es->es[k]? =some e->(i+k<n0->e= .gone\/ρ[i+k]? =some (some (i+k)))/\(match e with
   | .live ab'=>match ρ[i+k]? with
    |some none=>ab'.es.length=0
    |some (some j)=>match h[j]? with
     |some (.live ab)=>ab'.ty=ab.ty/\ab'.k=ab.k/\((ab'.es=ab.es/\(ab.es.all fun x=>x.all dx)=true)\/rnE ρ h' ab'.es ab.es)
     |_=>False
    |none=>False
   | .gone=>True
   | .hole=>i+k<n0->h[i+k]? =some .hole)
 | [],i,k,e,_,hk=>by simp at hk
 |e0::es,i,0,e,hr,hk=>by
  simp only [zqw,zqy]at hk
  subst hk
  unfold rnH at hr
  exact⟨hr.1,hr.2.1⟩
 |e0::es,i,k+1,e,hr,hk=>by
  simp only [List.getElem?_cons_succ]at hk
  unfold rnH at hr
  have:=v9 es (i+1) k e hr.2.2 hk
  rwa [show i+1+k=i+(k+1) by omega]at this
theorem yY:∀(l' l:LLA),rnE ρ h' l' l->l'.length=l.length
 | [],[],_=>rfl
 |x'::l',x::l,hr=>by unfold rnE at hr;simp [yY l' l hr.2]
 | [],_::_,hr=>hr.elim
 |_::_,[],hr=>hr.elim
theorem yX:∀(l' l:List AC)(i:Nat)(c':AC),rnL ρ h' l' l->l'[i]? =some c'->∃c,l[i]? =some c/\rnC ρ h' c' c
 | [],_,i,c',_,hi=>by simp at hi
 |d'::l',d::l,0,c',hr,hi=>by
  simp only [zqw,zqy]at hi
  subst hi
  unfold rnL at hr
  exact⟨d,rfl,hr.1⟩
 |d'::l',d::l,i+1,c',hr,hi=>by
  simp only [List.getElem?_cons_succ]at hi
  unfold rnL at hr
  obtain⟨c,h1,h2⟩:=yX l' l i c' hr.2 hi
  exact⟨c,by simpa using h1,h2⟩
 |_::_,[],_,_,hr,_=>hr.elim
theorem CY:∀(l' l:List Nat),rnR ρ h' l' l->l.length=l'.length/\∀(q i:Nat),l'[q]? =some i->∃ab' j,h'[i]? =some (.live ab')/\ρ[i]? =some (some j)/\l[q]? =some j
 | [],[],_=>⟨rfl,fun q i hq=>by simp at hq⟩
 |i'::l',r::l,hr=>by
  unfold rnR at hr
  obtain⟨h1,h2⟩:=hr
  obtain⟨e1,e2⟩:=CY l' l h2
  refine⟨by simp [e1],fun q i hq=> ?_⟩
  cases q with
  |zero=>
   simp only [zqw,zqy]at hq
   subst hq
   split at h1
   ·rename_i ab' j hi hρ
    subst h1
    exact⟨ab',_,hi,hρ,rfl⟩
   ·exact h1.elim
  |succ q=>exact e2 q i (by simpa using hq)
 | [],_::_,hr=>hr.elim
 |_::_,[],hr=>hr.elim
theorem yW:∀(l' l:List AC),rnL ρ h' l' l->l'.length=l.length
 | [],[],_=>rfl
 |x'::l',x::l,hr=>by unfold rnL at hr;simp [yW l' l hr.2]
 | [],_::_,hr=>hr.elim
 |_::_,[],hr=>hr.elim
theorem C1:∀(l' l:LLA)(i:Nat)(x':List AC),rnE ρ h' l' l->l'[i]? =some x'->∃x,l[i]? =some x/\rnL ρ h' x' x
 | [],_,i,c',_,hi=>by simp at hi
 |d'::l',d::l,0,c',hr,hi=>by
  simp only [zqw,zqy]at hi
  subst hi
  unfold rnE at hr
  exact⟨d,rfl,hr.1⟩
 |d'::l',d::l,i+1,c',hr,hi=>by
  simp only [List.getElem?_cons_succ]at hi
  unfold rnE at hr
  obtain⟨c,h1,h2⟩:=C1 l' l i c' hr.2 hi
  exact⟨c,by simpa using h1,h2⟩
 |_::_,[],_,_,hr,_=>hr.elim
theorem oh:∀(l' l:List AT)(i:Nat)(x':AT),AD ρ h' l' l->l'[i]? =some x'->∃x,l[i]? =some x/\rnT ρ h' x' x
 | [],_,i,c',_,hi=>by simp at hi
 |d'::l',d::l,0,c',hr,hi=>by
  simp only [zqw,zqy]at hi
  subst hi
  unfold AD at hr
  exact⟨d,rfl,hr.1⟩
 |d'::l',d::l,i+1,c',hr,hi=>by
  simp only [List.getElem?_cons_succ]at hi
  unfold AD at hr
  obtain⟨c,h1,h2⟩:=oh l' l i c' hr.2 hi
  exact⟨c,by simpa using h1,h2⟩
 |_::_,[],_,_,hr,_=>hr.elim
theorem og:∀(l' l:List AT),AD ρ h' l' l->l'.length=l.length
 | [],[],_=>rfl
 |x'::l',x::l,hr=>by unfold AD at hr;simp [og l' l hr.2]
 | [],_::_,hr=>hr.elim
 |_::_,[],hr=>hr.elim
def rnM(m:AM)(ρ:List (Option Nat))(k:Nat):AM:=(List.range k).map fun i=>match ρ[i]? with|some (some j)=>(m[j]?).getD none|_=>none
theorem CZ{k i:Nat}(hi:i<k):(rnM m ρ k)[i]? =some (match ρ[i]? with|some (some j)=>(m[j]?).getD none|_=>none):=by
 unfold rnM
 rw [zqi,List.getElem?_range hi]
 rfl
theorem gK{k i j:Nat}{q:Option (Nat×Nat)}(hi:i<k)(hρ:ρ[i]? =some (some j))(hq:m[j]? =some q):(rnM m ρ k)[i]? =some q:=by
 rw [CZ hi];simp [hρ,hq]
theorem v8{k i:Nat}(hi:i<k)(hρ:ρ[i]? =some none):(rnM m ρ k)[i]? =some none:=by
 rw [CZ hi];simp [hρ]
theorem kg(hr:rnH n0 ρ h' h 0 h'){i:Nat}{ab':AB}(hi:h'[i]? =some (.live ab')):(ρ[i]? =some none/\ab'.es.length=0)\/∃j ab,ρ[i]? =some (some j)/\h[j]? =some (.live ab)/\ab'.ty=ab.ty/\ab'.k=ab.k/\ab'.es.length=ab.es.length/\
  ((ab'.es=ab.es/\(ab.es.all fun x=>x.all dx)=true)\/rnE ρ h' ab'.es ab.es):=by
 have:=(v9 h' 0 i _ hr hi).2
 rw [Nat.zero_add]at this
 simp only at this
 cases hρ:ρ[i]? with
 |none=>rw [hρ]at this;exact this.elim
 |some o=>
  rw [hρ]at this
  cases o with
  |none=>exact .inl ⟨rfl,this⟩
  |some j=>
   right
   simp only at this
   split at this
   ·rename_i ab hj
    obtain⟨h1,h2,h3⟩:=this
    refine⟨j,ab,rfl,hj,h1,h2,?_,h3⟩
    rcases h3 with⟨h3,_⟩|h3
    ·rw [h3]
    ·exact yY _ _ h3
   ·exact this.elim
theorem RC.rn{β:BP}(hH:RH F w m h)(hr:rnH n0 ρ h' h 0 h'){c' c:AC}{v:Value}(hv:RC F w m h c v)(hc:rnC ρ h' c' c):RC F w (rnM m ρ h'.length) h' c' v:=by
 have hm:∀(j:Nat)(ab:AB),h[j]? =some (.live ab)->∃q,m[j]? =some q:=fun j ab hj=>by
  have hd:=(zqb.1 hj).1
  exact⟨m[j]'(by rw [hH.len];exact hd),zqc _⟩
 cases c' with
 |imm u=>have:c= .imm u:=hc;subst this;exact hv
 |view xs=>have:c= .view xs:=hc;subst this;exact hv
 |eptr cs o=>have:c= .eptr cs o:=hc;subst this;exact hv
 |fv bs xs=>have:c= .fv bs xs:=hc;subst this;exact hv
 |old p xs=>have:c= .old p xs:=hc;subst this;exact hv
 |dead=>trivial
 |own i=>
  simp only [rnC]at hc
  split at hc
  ·rename_i ha j hi hρ
   subst hc
   rcases kg hr hi with⟨h1,_⟩|⟨j',ab,h1,h2,h3,h4,h5,_⟩
   ·rw [hρ]at h1;cases h1
   ·rw [hρ]at h1
    cases h1
    have hb:i<h'.length:=(zqb.1 hi).1
    rcases hv with hg|⟨ab1,g1,g2⟩
    ·rw [h2]at hg;cases hg
    ·rw [h2]at g1
     cases g1
     refine .inr ⟨ha,hi,?_⟩
     obtain⟨q,hq⟩:=hm j ab h2
     rw [gK hb hρ hq,h5]
     rw [hq]at g2
     exact g2
  ·rename_i ha hi hρ
   subst hc
   rcases kg hr hi with⟨h1,h2⟩|⟨j',ab,h1,_⟩
   ·have hb:i<h'.length:=(zqb.1 hi).1
    exact .inr ⟨ha,hi,.inr ⟨v8 hb hρ,h2,hv⟩⟩
   ·rw [hρ]at h1;cases h1
  ·exact hc.elim
 |sub i lo n=>
  simp only [rnC]at hc
  split at hc
  ·rename_i ha j hi hρ
   subst hc
   rcases kg hr hi with⟨h1,_⟩|⟨j',ab,h1,h2,h3,h4,h5,_⟩
   ·rw [hρ]at h1;cases h1
   ·rw [hρ]at h1
    cases h1
    have hb:i<h'.length:=(zqb.1 hi).1
    rcases hv with hg|⟨ab1,c,p,g1,g2,g3,g4,g5,g6⟩
    ·rw [h2]at hg;cases hg
    ·rw [h2]at g1
     cases g1
     refine .inr ⟨ha,c,p,hi,by rw [h5];exact g2,g3,g4,g5,?_⟩
     obtain⟨q,hq⟩:=hm j ab h2
     rw [gK hb hρ hq,h4]
     rw [hq]at g6
     exact g6
  ·exact hc.elim
 |ptr i e o=>
  simp only [rnC]at hc
  split at hc
  ·rename_i ha j hi hρ
   subst hc
   rcases kg hr hi with⟨h1,_⟩|⟨j',ab,h1,h2,h3,h4,h5,_⟩
   ·rw [hρ]at h1;cases h1
   ·rw [hρ]at h1
    cases h1
    have hb:i<h'.length:=(zqb.1 hi).1
    rcases hv with hg|⟨ab1,b,cap,g1,g2,g3⟩
    ·rw [h2]at hg;cases hg
    ·rw [h2]at g1
     cases g1
     refine .inr ⟨ha,b,cap,hi,?_,by rw [h4];exact g3⟩
     exact gK hb hρ g2
  ·exact hc.elim
 |clo g rs'=>
  cases c with
  |clo g' rs=>
   obtain⟨rfl,hR⟩:=hc
   obtain⟨vs,h1,h2,h3⟩:=hv
   obtain⟨e1,e2⟩:=CY rs' rs hR
   refine⟨vs,h1,by rw [h2,e1],fun q i hq=> ?_⟩
   obtain⟨ha,j,hi,hρ,hj⟩:=e2 q i hq
   obtain⟨u,hu,he⟩:=h3 q j hj
   refine⟨u,hu,?_⟩
   rcases kg hr hi with⟨h1,_⟩|⟨j',ab,h1,h2,h3,h4,h5,_⟩
   ·rw [hρ]at h1;cases h1
   ·rw [hρ]at h1
    cases h1
    have hb:i<h'.length:=(zqb.1 hi).1
    rcases he with hg|⟨ab1,b,cap,g1,g2,g3⟩
    ·rw [h2]at hg;cases hg
    ·rw [h2]at g1
     cases g1
     exact .inr ⟨ha,b,cap,hi,gK hb hρ g2,g3⟩
  |_=>exact hc.elim
theorem RC.plain_rn{c:AC}{v:Value}{m':AM}(hp:dx c=true)(hv:RC F w m h c v):RC F w m' h' c v:=by
 cases c<;>first|exact hv|cases hp
theorem RT.rn{β:BP}(hH:RH F w m h)(hr:rnH n0 ρ h' h 0 h'){x' x:AT}{v:Value}(hv:RT F w m h x v)(hc:rnT ρ h' x' x):RT F w (rnM m ρ h'.length) h' x' v:=by
 cases x' with
 |c c'=>
  cases x with
  |c c=>exact RC.rn hH hr hv hc
  |agg xs=>
   cases c'<;>first|exact hc.elim|trivial
 |agg l'=>
  cases x with
  |c c=>exact hc.elim
  |agg xs=>
   obtain⟨vs,h1,h2,h3⟩:=hv
   rcases hc with⟨rfl,hp⟩|hc
   ·exact⟨vs,h1,h2,fun j y hj=>let⟨u,hu,ho,ha⟩:=h3 j y hj;⟨u,hu,ho,RC.plain_rn (zqf.1 hp y (zqd hj)) ha⟩⟩
   ·refine⟨vs,h1,by rw [yW _ _ hc];exact h2,fun j y hj=> ?_⟩
    obtain⟨c,hb,hd⟩:=yX _ _ j y hc hj
    obtain⟨u,hu,ho,ha⟩:=h3 j c hb
    exact⟨u,hu,ho,RC.rn hH hr ha hd⟩
theorem RV.rn{β:BP}(hH:RH F w m h)(hr:rnH n0 ρ h' h 0 h'){x' x:AV}{v:Value}(hv:RV F w m h x v)(hc:rnV ρ h' x' x):RV F w (rnM m ρ h'.length) h' x' v:=by
 cases x' with
 |t x'=>
  cases x with
  |t x=>
   cases x' with
   |c c'=>
    cases c'<;>first|trivial|exact RT.rn hH hr hv hc
   |agg l'=>exact RT.rn hH hr hv hc
  |tup xs=>
   cases x' with
   |c c'=>cases c'<;>first|trivial|exact hc.elim
   |agg l'=>exact hc.elim
 |tup l'=>
  cases x with
  |t x=>exact hc.elim
  |tup xs=>
   obtain⟨vs,h1,h2,h3⟩:=hv
   refine⟨vs,h1,by rw [og _ _ hc];exact h2,fun j y hj=> ?_⟩
   obtain⟨c,ha,hb⟩:=oh _ _ j y hc hj
   obtain⟨u,hu,hd⟩:=h3 j c ha
   exact⟨u,hu,RT.rn hH hr hd hb⟩
theorem C0:∀(l:List (Nat×AV))(d:Nat),rnK ρ h' T l->rnV ρ h' (lkT l d) (T d)
 | [],d,_=>by unfold lkT;cases T d<;>exact trivial
 |(k,v)::l,d,hr=>by
  unfold rnK at hr
  unfold lkT
  by_cases hd:d=k
  ·subst hd;rw [if_pos rfl];exact hr.1
  ·rw [if_neg hd];exact C0 l d hr.2
theorem IZ(hn:(ρ.filterMap id).Nodup){i i' j:Nat}(h1:ρ[i]? =some (some j))(h2:ρ[i']? =some (some j)):i=i':=by
 induction ρ generalizing i i' with
 |nil=>simp at h1
 |cons o ρ ih=>
  cases o with
  |none=>
   simp only [List.filterMap_cons_none,id]at hn
   cases i with
   |zero=>simp at h1
   |succ i=>
    cases i' with
    |zero=>simp at h2
    |succ i'=>exact congrArg (·+1) (ih hn (by simpa using h1) (by simpa using h2))
  |some k=>
   have hb:(k::ρ.filterMap id).Nodup:=by simpa using hn
   rw [List.nodup_cons]at hb
   have ha:∀q,ρ[q]? =some (some k)->False:=fun q hq=>hb.1 (List.mem_filterMap.2 ⟨some k,zqd hq,rfl⟩)
   cases i with
   |zero=>
    simp at h1
    subst h1
    cases i' with
    |zero=>rfl
    |succ i'=>exact(ha i' (by simpa using h2)).elim
   |succ i=>
    cases i' with
    |zero=>simp at h2;subst h2;exact(ha i (by simpa using h1)).elim
    |succ i'=>exact congrArg (·+1) (ih hb.2 (by simpa using h1) (by simpa using h2))
theorem gD.rn{β:BP}{w0:World}{m0:AM}{h0:AH}(hs:gD F w0 m0 h0 w m h)(hn:h0.length=n0)(hle:n0<=h'.length)(hgo:∀i,i<n0->h[i]? =some .gone->h'[i]? =some .gone)(hnd:(ρ.filterMap id).Nodup)(hr:rnH n0 ρ h' h 0 h'):
  gD F w0 m0 h0 w (rnM m ρ h'.length) h':=by
 have hH:=hs.hp
 have hb:∀(i b c:Nat)(ha:AB),h'[i]? =some (.live ha)->(rnM m ρ h'.length)[i]? =some (some (b,c))->∃j ab,ρ[i]? =some (some j)/\h[j]? =some (.live ab)/\m[j]? =some (some (b,c)):=fun i b c ha h1 h2=>by
  have hc:i<h'.length:=(zqb.1 h1).1
  rcases kg hr h1 with⟨h3,_⟩|⟨j,ab,h3,h4,_⟩
  ·rw [v8 hc h3]at h2;cases h2
  ·refine⟨j,ab,h3,h4,?_⟩
   have hk:=(zqb.1 h4).1
   have hq:=zqc (l:=m) (i:=j) (by rw [hH.len];exact hk)
   rw [gK hc h3 hq]at h2
   rw [hq,h2]
 refine⟨⟨fun i ha h1=> ?_,fun i i' ab ha b c c' h1 h2 h3 h4=> ?_,by simp [rnM],hH.old,hH.lo⟩,fun r=> ?_,hs.os,hs.tape,hs.output,hs.size,hs.blk,fun i ha b c h1 h2=> ?_,hs.szx⟩
 ·have hc:i<h'.length:=(zqb.1 h1).1
  rcases kg hr h1 with⟨h3,h4⟩|⟨j,ab,h3,h4,h5,h6,h7,h8⟩
  ·rw [v8 hc h3];exact .inl ⟨rfl,h4⟩
  ·rcases hH.at_ j ab h4 with⟨g1,g2⟩|⟨b,c,g1,g2,cur,g3,g4,g5,g6,g7⟩
   ·rw [gK hc h3 g1];exact .inl ⟨rfl,by rw [h7];exact g2⟩
   ·rw [gK hc h3 g1]
    refine .inr ⟨b,c,rfl,g2,cur,by rw [h5];exact g3,by rw [h6];exact g4,by rw [h7];exact g5,g6,fun p x' hf=> ?_⟩
    rw [h6]
    rcases h8 with⟨h8,hp⟩|h8
    ·rw [h8]at hf
     refine⟨(g7 p x' hf).1,fun q c' hq=> ?_⟩
     obtain⟨u,hu,ho,hm⟩:=(g7 p x' hf).2 q c' hq
     exact⟨u,hu,ho,RC.plain_rn (zqf.1 (zqf.1 hp x' (zqd hf)) c' (zqd hq)) hm⟩
    ·obtain⟨x,hx,ht⟩:=C1 _ _ p x' h8 hf
     refine⟨by rw [yW _ _ ht];exact(g7 p x hx).1,fun q c' hq=> ?_⟩
     obtain⟨c0,hv,hw⟩:=yX _ _ q c' ht hq
     obtain⟨u,hu,ho,hm⟩:=(g7 p x hx).2 q c0 hv
     exact⟨u,hu,ho,RC.rn hH hr hm hw⟩
 ·obtain⟨j,a1,g1,g2,g3⟩:=hb i b c ab h1 h3
  obtain⟨j',a2,g4,g5,g6⟩:=hb i' b c' ha h2 h4
  have:=hH.inj j j' a1 a2 b c c' g2 g5 g3 g6
  subst this
  exact IZ hnd g1 g4
 ·refine⟨fun hg=> ?_,fun ab hl=> ?_⟩
  ·have hj:r<n0:=by rw [<-hn];exact(zqb.1 hg).1
   exact hgo r hj ((hs.keeps r).1 hg)
  ·have hj:r<n0:=by rw [<-hn];exact(zqb.1 hl).1
   rcases(hs.keeps r).2 ab hl with hg|⟨ab1,g1,g2,g3,g4⟩
   ·exact .inl (hgo r hj hg)
   ·have hd:r<h'.length:=by omega
    have hi:=zqc hd
    have hh:=(v9 h' 0 r _ hr hi).1 (by omega)
    rw [Nat.zero_add]at hh
    cases he:h'[r]with
    |gone=>left;rw [hi,he]
    |hole=>
     have:=(v9 h' 0 r _ hr hi).2
     rw [he]at this
     simp only [Nat.zero_add]at this
     rw [g1]at this
     cases this hj
    |live ha=>
     right
     have hρ:ρ[r]? =some (some r):=hh.resolve_left (by rw [he];simp)
     have h1:h'[r]? =some (.live ha):=by rw [hi,he]
     rcases kg hr h1 with⟨h3,h4⟩|⟨j,ab2,h3,h4,h5,h6,h7,h8⟩
     ·rw [hρ]at h3;cases h3
     ·rw [hρ]at h3
      cases h3
      rw [g1]at h4
      cases h4
      refine⟨ha,h1,by rw [h6];exact g2,by rw [h7];exact g3,?_⟩
      have hk:=(zqb.1 g1).1
      have hq:=zqc (l:=m) (i:=r) (by rw [hH.len];exact hk)
      rw [gK hd hρ hq,<-g4,hq]
 ·obtain⟨j,ab,g1,g2,g3⟩:=hb i b c ha h1 h2
  exact hs.own j ab b c g2 g3
theorem Rel.rn{β:BP}{w0:World}{m0:AM}{h0:AH}{N:Nat}{a:Act}(r:Rel F w0 m0 h0 N T h a w m)(hn:h0.length=n0)(hw:Wk n0 T h l h' ρ):Rel F w0 m0 h0 N (lkT l) h' a w (rnM m ρ h'.length):=by
 obtain⟨h1,h2,h3,h4,h5⟩:=hw
 exact⟨fun d=>RV.rn r.st.hp h4 (r.tm d) (C0 l d h5),r.st.rn hn h1 h2 h3 h4,r.df,r.sz⟩
end
section
variable {P:Program}{n0 N:Nat}{Q:Exit->(Nat->AV)->AH->Prop}{T:Nat->AV}{h:AH}
theorem Hc{β:BP}{S:Type}{c:Code}(Tf:S->List (Nat×AV))(hf:S->AH)(ok:S->Prop)(μ:S->Nat)(s0:S)(ρ0:List (Option Nat))(h0:ok s0)(hw:Wk n0 T h (Tf s0) (hf s0) ρ0)
  (jD:∀s,ok s->VC P n0 N c (He (fun T' h'=>∃s' ρ,ok s'/\μ s'<μ s/\Wk n0 T' h' (Tf s') (hf s') ρ) Q) (lkT (Tf s)) (hf s)):VC P n0 N (.loop c) Q T h:=fun F w0 m0 hb a w m hn r=>by
 refine wp_loop_ghost (fun k a w=>∃s m F1,μ s=k/\ok s/\fJ F F1 w0 m0 hb/\Rel F1 w0 m0 hb N (lkT (Tf s)) (hf s) a w m) (μ s0) ⟨s0,_,F,rfl,h0,fJ.refl _ _ _ _,r.rn hn hw⟩ ?_
 rintro k a w ⟨s,m,F1,rfl,hok,hG,r⟩
 refine Code.wp_mono (fun e a' w'⟨T',h',m',F2,hq,hG2,r'⟩=> ?_) (jD s hok F1 w0 m0 hb a w m hn r)
 have ha:=hG.comp hG2
 cases e with
 |normal=>
  obtain⟨s',ρ,h1,h2,h3⟩:=hq
  exact⟨μ s',h2,s',_,F2,rfl,h1,ha,r'.rn hn h3⟩
 |exit id=>exact⟨T',h',m',F2,hq,ha,r'⟩
 |goto l=>exact⟨T',h',m',F2,hq,ha,r'⟩
 |ret=>exact⟨T',h',m',F2,hq,ha,r'⟩
 |panic c=>exact⟨T',h',m',F2,hq,ha,r'⟩
 |outgrown=>exact⟨T',h',m',F2,hq,ha,r'⟩
end
def rsA(P:Program)(T:Nat->AV)(h:AH)(r:ResultVar)(K:AT->Prop):Prop:=
 match r with
 | .tmp t=>match T t with| .t x=>K x|_=>False
 | .cell a t=>match T a,s4 P t with
  | .t (.c (.ptr r i off)),some q=>match h[r]? with
   |some (.live ab)=>∃x,ab.es[i]? =some x/\ldA q x off (fun v=>match v with| .t y=>K y|_=>False)
   |_=>False
  |_,_=>False
def rsL(P:Program)(T:Nat->AV)(h:AH):List ResultVar->(List AT->Prop)->Prop
 | [],K=>K []
 |r::rs,K=>rsA P T h r fun x=>rsL P T h rs fun xs=>K (x::xs)
def mkV:List AT->AV
 | [x]=> .t x
 |xs=> .tup xs
inductive BO(h:AH):List AC->List AC->Prop
 |nil:BO h [] []
 |cons {c d:AC} {xs ys:List AC}:qj h c d->BO h xs ys->BO h (c::xs) (d::ys)
inductive qO(h:AH):List AT->List AT->Prop
 |nil:qO h [] []
 |c {c d:AC} {xs ys:List AT}:qj h c d->qO h xs ys->qO h (.c c::xs) (.c d::ys)
 |agg {a b:List AC} {xs ys:List AT}:BO h a b->qO h xs ys->qO h (.agg a::xs) (.agg b::ys)
theorem BO.at_{a b:List AC}(hr:BO h a b):a.length=b.length/\∀(i:Nat)(c d:AC),a[i]? =some c->b[i]? =some d->qj h c d:=by
 induction hr with
 |nil=>exact⟨rfl,fun i c d h=>by simp at h⟩
 |cons h1 _ ih=>
  refine⟨by simp [ih.1],fun i c d hc hd=> ?_⟩
  cases i with
  |zero=>simp at hc hd;subst hc hd;exact h1
  |succ i=>exact ih.2 i c d (by simpa using hc) (by simpa using hd)
theorem qO.at_{a b:List AT}(hr:qO h a b):b.length=a.length/\∀(j:Nat)(x y:AT),a[j]? =some x->b[j]? =some y->(∃c d,x= .c c/\y= .c d/\qj h c d)\/∃xs ys,x= .agg xs/\y= .agg ys/\xs.length=ys.length/\∀(i:Nat)(c d:AC),xs[i]? =some c->ys[i]? =some d->qj h c d:=by
 induction hr with
 |nil=>exact⟨rfl,fun i c d h=>by simp at h⟩
 |c h1 _ ih=>
  refine⟨by simp [ih.1],fun i x y hx hy=> ?_⟩
  cases i with
  |zero=>simp at hx hy;subst hx hy;exact .inl ⟨_,_,rfl,rfl,h1⟩
  |succ i=>exact ih.2 i x y (by simpa using hx) (by simpa using hy)
 |agg h1 _ ih=>
  refine⟨by simp [ih.1],fun i x y hx hy=> ?_⟩
  cases i with
  |zero=>simp at hx hy;subst hx hy;exact .inr ⟨_,_,rfl,rfl,h1.at_.1,h1.at_.2⟩
  |succ i=>exact ih.2 i x y (by simpa using hx) (by simpa using hy)
theorem qO.rt{β:BP}(hH:RH F w m h){x y:AT}(hr:(∃c d,x= .c c/\y= .c d/\qj h c d)\/∃xs ys,x= .agg xs/\y= .agg ys/\xs.length=ys.length/\∀(i:Nat)(c d:AC),xs[i]? =some c->ys[i]? =some d->qj h c d){v:Value}(hv:RT F w m h x v):RT (s7 F m h) w [] [] y v:=by
 rcases hr with⟨c,d,rfl,rfl,h1⟩|⟨xs,ys,rfl,rfl,h1,h2⟩
 ·exact h1.rc (Cp.refl h) hH hv
 ·obtain⟨vs,g1,g2,g3⟩:=hv
  refine⟨vs,g1,by rw [g2,h1],fun i d hi=> ?_⟩
  have hb:i<xs.length:=by rw [h1];exact(zqb.1 hi).1
  have ha:=zqc hb
  obtain⟨u,hu,hc,hd⟩:=g3 i _ ha
  exact⟨u,hu,hc,(h2 i _ d ha hi).rc (Cp.refl h) hH hd⟩
theorem qO.rv{β:BP}(hH:RH F w m h){xs ys:List AT}(hr:qO h xs ys){v:Value}(hv:RV F w m h (mkV xs) v):RV (s7 F m h) w [] [] (mkV ys) v:=by
 obtain⟨hl,ha⟩:=hr.at_
 have many:(∀x,xs≠[x])->RV F w m h (.tup xs) v->RV (s7 F m h) w [] [] (.tup ys) v:=fun _ hv=>by
  obtain⟨vs,g1,g2,g3⟩:=hv
  refine⟨vs,g1,by rw [g2,hl],fun j y hj=> ?_⟩
  have hc:j<xs.length:=by rw [<-hl];exact(zqb.1 hj).1
  have hb:=zqc hc
  obtain⟨u,hu,hd⟩:=g3 j _ hb
  exact⟨u,hu,qO.rt hH (ha j _ y hb hj) hd⟩
 match xs,ys,hl,hr,ha with
 | [],[],_,_,_=>exact many (fun x hx=>by cases hx) hv
 | [x],[y],_,_,ha=>exact qO.rt hH (ha 0 x y rfl rfl) hv
 |x::x'::xs,y::y'::ys,_,_,_=>exact many (fun x hx=>by cases hx) hv
def KT(P:Program)(n0:Nat)(rs:List ResultVar)(Post:AV->AH->Prop):Exit->(Nat->AV)->AH->Prop
 | .normal,T,h=>rsL P T h rs fun xs=>(∃res' h' ρ,Wk n0 (fun _=>mkV xs) h [(0,res')] h' ρ/\Post res' h')\/(n0=0/\∃ys,qO h xs ys/\Post (mkV ys) [])
 | .ret,T,h=>rsL P T h rs fun xs=>(∃res' h' ρ,Wk n0 (fun _=>mkV xs) h [(0,res')] h' ρ/\Post res' h')\/(n0=0/\∃ys,qO h xs ys/\Post (mkV ys) [])
 |_,_,_=>False
def T0(args:List AT):Nat->AV:=fun d=>match args[d]? with|some x=> .t x|none=> .t (.c (.imm undef))
section
variable {P:Program}{F:Nat->Prop}{w:World}{m:AM}{h:AH}{T:Nat->AV}{a:Act}
def J6(tmps:Array Value)(r:ResultVar):Sem Value:=match r with
 | .tmp t=>pure (tmps.getD t undef)
 | .cell a t=>do loadVar t (<-asAddr (tmps.getD a undef))
theorem CW{β:BP}(hT:RTm F w m h T a)(hH:RH F w m h){r:ResultVar}{K:AT->Prop}(hr:rsA P T h r K):∃x v,K x/\(J6 a.tmps r).run P w= .ok v w/\RT F w m h x v:=by
 unfold rsA at hr
 split at hr
 ·rename_i t
  split at hr
  ·rename_i x hx
   have:=hT t
   rw [hx]at this
   exact⟨x,_,hr,rfl,this⟩
  ·exact hr.elim
 ·rename_i p t
  split at hr
  ·rename_i r i off q hp hq
   split at hr
   ·rename_i ab hh
    obtain⟨y,hy,hl⟩:=hr
    have hv:=hT p
    rw [hp]at hv
    rcases hv with hg|⟨ab',b,cap,h1,h2,h3⟩
    ·rw [hh]at hg;cases hg
    ·obtain⟨rfl,_,hB⟩:=hH.get hh h1 h2
     obtain⟨res,v,hK,ha,hv⟩:=xZ (P:=P) (m:=m) (h:=h) hq (b:=b) (o:=i*ab'.k) (hB.cell hy) hl
     cases res with
     |t x=>exact⟨x,v,hK,by simp only [J6,h3,asAddr,Sem.run_bind,Sem.run_pure,Result.andThen_ok];exact ha,hv⟩
     |tup xs=>exact hK.elim
   ·exact hr.elim
  ·exact hr.elim
theorem xM{β:BP}(hT:RTm F w m h T a)(hH:RH F w m h):∀(rs:List ResultVar)(K:List AT->Prop),rsL P T h rs K->∃xs vs,K xs/\(rs.mapM (J6 a.tmps)).run P w= .ok vs w/\vs.length=xs.length/\∀(j:Nat)(x:AT),xs[j]? =some x->∃u,vs[j]? =some u/\RT F w m h x u
 | [],K,hr=>⟨[],[],hr,rfl,rfl,fun j x hj=>by simp at hj⟩
 |r::rs,K,hr=>by
  unfold rsL at hr
  obtain⟨x,v,hK,h1,h2⟩:=CW hT hH hr
  obtain⟨xs,vs,ha,h3,h4,h5⟩:=xM hT hH rs _ hK
  refine⟨x::xs,v::vs,ha,by simp [List.mapM_cons,h1,h3],by simp [h4],fun j y hj=> ?_⟩
  cases j with
  |zero=>simp at hj;subst hj;exact⟨v,rfl,h2⟩
  |succ j=>exact h5 j y (by simpa using hj)
theorem iy{β:BP}(hT:RTm F w m h T a)(hH:RH F w m h){fn:Func}{K:List AT->Prop}(hr:rsL P T h fn.results.toList K):∃xs v,K xs/\(results fn a.tmps).run P w= .ok v w/\RV F w m h (mkV xs) v:=by
 obtain⟨xs,vs,hK,h1,h2,h3⟩:=xM hT hH _ _ hr
 have e:results fn a.tmps=(do let vs<-fn.results.mapM (J6 a.tmps);pure (if h:vs.size=1 then vs[0]else .tuple vs)):=rfl
 rw [e,Array.mapM_eq_mapM_toList]
 simp only [Sem.run_bind,Sem.run_map,h1,Result.andThen_ok,Sem.run_pure]
 refine⟨xs,_,hK,rfl,?_⟩
 clear h1 hK hr
 match xs,vs,h2,h3 with
 | [x],[v],_,h3=>
  obtain⟨u,hu,hr⟩:=h3 0 x rfl
  simp at hu
  subst hu
  exact hr
 | [],[],_,_=>exact⟨[],rfl,rfl,fun j x hj=>by simp at hj⟩
 |x::y::xs,u::v::vs,hl,h3=>
  have:¬(u::v::vs).toArray.size=1:=by simp
  rw [dif_neg this]
  exact⟨_,rfl,hl,h3⟩
end
variable {P:Program}
theorem sQ{β:BP}(hex:∀b,¬BP.ex b){f:FuncId}{fn:Func}{c:Code}{args:List AT}{Post:AV->AH->Prop}(hf:P.funcs[f]? =some fn)(hb:fn.body=some c)(hnm:(fn.name== "runtime.NumGoroutine")=false)(hn:args.length<=fn.ntmps)
  (hv:VC P h.length fn.ntmps c (KT P h.length fn.results.toList Post) (T0 args) h):Con P f h args Post:=by
 refine⟨by unfold lr;rw [hf];simp [hnm,hb],fun F w m vs hH hl ha=> ?_⟩
 refine calls_of_wp hf hb ?_
 have ho:vs.toArray.size=args.length:=by simpa using hl
 have hg:Rel F w m h fn.ntmps (T0 args) h {tmps:=vs.toArray++Array.replicate (fn.ntmps-vs.toArray.size) undef,defers:=[]} w m:=by
  refine⟨fun d=> ?_,(dI.refl hH).x,rfl,by simp [hl];omega⟩
  unfold T0
  cases hd:args[d]? with
  |some x=>
   obtain⟨v,hv,hr⟩:=ha d x hd
   have hk:d<vs.length:=(zqb.1 hv).1
   have:(vs.toArray++Array.replicate (fn.ntmps-vs.toArray.size) undef).getD d undef=v:=by
    rw [Array.getD_eq_getD_getElem?,Array.getElem?_append_left (by simpa using hk)]
    simp [hv]
   rw [this]
   exact hr
  |none=>
   have hm:vs.length<=d:=by rw [hl];exact List.getElem?_eq_none_iff.1 hd
   have:(vs.toArray++Array.replicate (fn.ntmps-vs.toArray.size) undef).getD d undef=undef:=by
    rw [Array.getD_eq_getD_getElem?,Array.getElem?_append_right (by simpa using hm),Array.getElem?_replicate]
    split<;>rfl
   rw [this]
   rfl
 refine Code.wp_mono (fun e a' w'⟨T',h',m',F1,hq,hG,r⟩=> ?_) (hv F w m h _ w m rfl hg)
 have hj:rsL P T' h' fn.results.toList (fun xs=>(∃res' h'' ρ,Wk h.length (fun _=>mkV xs) h' [(0,res')] h'' ρ/\Post res' h'')\/(h.length=0/\∃ys,qO h' xs ys/\Post (mkV ys) []))->a'.defers=[]/\∃v,(results fn a'.tmps).run P w'= .ok v w'/\∃v_1 res h' m' F',Ending.returned v= .returned v_1/\Post res h'/\fJ F F' w m h/\dI F' w m h w' m' h'/\RV F' w' m' h' res v_1:=by
  intro hq
  obtain⟨xs,v,hc,hr,hi⟩:=iy r.tm r.st.hp hq
  rcases hc with⟨res',h'',ρ,hw,hp⟩|⟨h0,ys,hres,hp⟩
  ·obtain⟨h1,h2,h3,h4,h5⟩:=hw
   refine⟨r.df,v,hr,v,res',h'',_,F1,rfl,hp,hG,(r.st.rn rfl h1 h2 h3 h4).full hex,RV.rn r.st.hp h4 hi ?_⟩
   unfold rnK at h5
   exact h5.1
  ·have hh:h=[]:=zqv h0
   subst hh
   have he:∀b,s7 F1 m' h' b->b<w'.heap.size:=fun b hb=>by
    rcases hb with hb|⟨r0,ab,c,g1,g2⟩
    ·exact r.st.hp.old b hb
    ·exact(r.st.hp.lt g1 g2).2
   refine⟨r.df,v,hr,v,mkV ys,[],[],s7 F1 m' h',rfl,hp,⟨fun b hb=> .inl (hG.1 b hb),fun b hb=> ?_⟩,⟨RH.empty he r.st.hp.lo,fun r0=>⟨fun hx=>by simp at hx,fun ab hx=>by simp at hx⟩,r.st.os,r.st.tape,r.st.output,r.st.size,(r.st.full hex).blk,fun r0 ab b c hx=>by simp at hx⟩,qO.rv r.st.hp hres hi⟩
   rcases hb with hb|⟨r0,ab,c,g1,g2⟩
   ·exact hG.2 b hb
   ·rcases r.st.own r0 ab b c g1 g2 with⟨r1,ab1,c1,g3,_⟩|g3
    ·simp at g3
    ·exact .inr (.inl g3)
 cases e with
 |normal=>exact hj hq
 |ret=>exact hj hq
 |exit id=>exact hq.elim
 |goto l=>exact hq.elim
 |panic c=>exact hq.elim
 |outgrown=>exact hq.elim
section
variable {P:Program}{T:Nat->AV}{h:AH}{n:Nat}{ops:Array Oper}{Q:(Nat->AV)->AH->Prop}{K:AV->AH->Prop}{L:AV->List AB->Prop}
end
structure TI where
 agg:Option Nat
 zero:List Value
 size:Nat
 flds:List (Option (Nat×TypeId))
 elem:Option (TypeId×Nat×Nat)
 sok:Bool
 kd:Option (Option IntKind)
def uY(P:Program)(t:TypeId):Option TI:=
 match s4 P t,nh P t,jt P t,P.underlying t with
 |some a,some z,some s,some u=>some ⟨a,z,s,(match u with| .struct fs=>(List.range fs.size).map (kK P t)|_=>[]),gB P t,qT P t,match u with| .bool=>some none| .int k=>some (some k)|_=>none⟩
 |_,_,_,_=>none
def nth{α:Type}:List α->Nat->Option α
 | [],_=>none
 |x::_,0=>some x
 |_::l,n+1=>nth l n
theorem fF{α:Type}:∀(l:List α)(n:Nat),nth l n=l[n]?
 | [],n=>by simp [nth]
 |x::l,0=>by simp [nth]
 |x::l,n+1=>by simp [nth,fF l n]
def ti:List (TypeId×TI)->TypeId->Option TI
 | [],_=>none
 |(k,i)::l,t=>match Nat.beq k t with|true=>some i|false=>ti l t
structure fL(P:Program)(tab:List (TypeId×TI)):Prop where
 ok:tab.map (fun e=>uY P e.1)=tab.map (fun e=>some e.2)
 mix:P.follows .mixedOrders=true
theorem fL.at_{tab:List (TypeId×TI)}(hf:tab.map (fun e=>uY P e.1)=tab.map (fun e=>some e.2)){t:TypeId}{i:TI}(h:ti tab t=some i):uY P t=some i:=by
 induction tab with
 |nil=>cases h
 |cons e l ih=>
  obtain⟨k,j⟩:=e
  simp only [zqA,List.cons.injEq]at hf
  unfold ti at h
  split at h
  ·rename_i hb
   have:=Nat.eq_of_beq_eq_true hb
   subst this
   cases h
   exact hf.1
  ·exact ih hf.2 h
section
variable {P:Program}{t:TypeId}{i:TI}
theorem dq(h:uY P t=some i):s4 P t=some i.agg/\nh P t=some i.zero/\jt P t=some i.size/\(∀j d u,nth i.flds j=some (some (d,u))->kK P t j=some (d,u))/\gB P t=i.elem/\qT P t=i.sok/\
  (i.kd=some none->P.underlying t=some .bool)/\∀k,i.kd=some (some k)->P.underlying t=some (.int k):=by
 unfold uY at h
 split at h
 ·rename_i a z s u h1 h2 h3 h4
  cases h
  refine⟨h1,h2,h3,fun j d u' hj=> ?_,rfl,rfl,fun hk=> ?_,fun k hk=> ?_⟩
  ·simp only [fF]at hj
   split at hj
   ·simp only [zqi,zqj]at hj
    obtain⟨j',h5,h6⟩:=hj
    have:=(zqb.1 h5).2
    simp at this
    subst this
    exact h6
   ·simp at hj
  ·simp only at hk;rw [h4];split at hk<;>first|rfl|cases hk
  ·simp only at hk;rw [h4];split at hk<;>first|(cases hk;rfl)|cases hk
 ·cases h
end
inductive EE where
 |bx (t k:Nat) (x:List AC)
 |rw (ab:AB)
 |gn
abbrev EH:=List EE
def EE.e:EE->AE
 | .bx t k x=> .live ⟨t,k,[x]⟩
 | .rw ab=> .live ab
 | .gn=> .gone
def toH(h:EH):AH:=h.map EE.e
def EE.isLive:Option EE->Bool
 |some (.bx _ _ _)=>true
 |some (.rw _)=>true
 |_=>false
inductive GK where
 |w|q|qb|ng|cv|mn|mx|ln|nc|rp|ap|tk|st|N|X|Y|Z|S|SO|E|C|PC|L
@[reducible] def GT : GK -> Type
  | .w => BinOp -> IntKind -> Int -> Int -> Int
  | .q => BinOp -> Int -> Int -> Bool
  | .qb => BinOp -> Bool -> Bool -> Bool
  | .ng => IntKind -> Int -> Int
  | .cv => IntKind -> Int -> Int
  | .mn => Int -> Int -> Int
  | .mx => Int -> Int -> Int
  | .ln => LLA -> Int
  | .nc => Nat -> Int
  | .rp => Int -> List AC -> LLA
  | .ap => LLA -> LLA -> LLA
  | .tk => LLA -> Nat -> Nat -> LLA
  | .st => LLA -> Nat -> List AC -> LLA
  | .N => Prop -> Prop -> Prop
  | .X => LLA -> Int -> Nat -> (List AC -> Prop) -> Prop
  | .Y => Nat -> LLA -> Int -> (Nat -> Prop) -> Prop
  | .Z => Nat -> Nat -> Int -> (Nat -> Prop) -> Prop
  | .S => LLA -> Nat -> Option Int -> Option Int -> (LLA -> Prop) -> Prop
  | .SO => LLA -> Option Int -> Option Int -> (Nat -> Nat -> Prop) -> Prop
  | .E => BinOp -> TypeId -> List AC -> List AC -> (Bool -> Prop) -> Prop
  | .C => FuncId -> EH -> List AT -> (AV -> EH -> Prop) -> Prop
  | .PC => FuncId -> EH -> Nat -> List AT -> (AV -> EH -> Prop) -> Prop
  | .L => Code -> (Exit -> List (Nat × AV) -> EH -> Prop) -> List (Nat × AV) -> EH -> Prop
abbrev Gd:=(k:GK)->GT k
def Aj(len:Nat)(lo hi:Option Int)(K:Nat->Nat->Prop):Prop:=
 ∃a b:Nat,(match lo with|none=>a=0|some z=>0<=z/\a=z.toNat)/\(match hi with|none=>b=len|some z=>0<=z/\b=z.toNat)/\a<=b/\b<=len/\K a b
def G0 [BP](P:Program)(n0 N:Nat):Gd:=fun k=>match k with
 | .w=>((fun op k a b=>match op with| .add=>k.wrap (a+b)| .sub=>k.wrap (a-b)| .mul=>k.wrap (a*b)| .quo=>k.wrap (a.tdiv b)| .rem=>a.tmod b| .and=>k.wrap ((BitVec.ofInt k.bits a&&&BitVec.ofInt k.bits b).toNat)| .or=>k.wrap ((BitVec.ofInt k.bits a|||BitVec.ofInt k.bits b).toNat)| .xor=>k.wrap ((BitVec.ofInt k.bits a^^^ BitVec.ofInt k.bits b).toNat)| .shr=>a.fdiv (2^ min b.toNat k.bits)|_=>0):BinOp->IntKind->Int->Int->Int)
 | .q=>((fun op a b=>match op with| .eql=>a==b| .neq=>a !=b| .lss=>decide (a<b)| .leq=>decide (a<=b)| .gtr=>decide (a>b)| .geq=>decide (a≥b)|_=>false):BinOp->Int->Int->Bool)
 | .qb=>((fun op a b=>match op with| .eql=>a==b| .neq=>a !=b|_=>false):BinOp->Bool->Bool->Bool)
 | .ng=>((fun k a=>k.wrap (0-a)):IntKind->Int->Int)
 | .cv=>((fun k a=>k.wrap a):IntKind->Int->Int)
 | .mn=>((fun a b=>if b<a then b else a):Int->Int->Int)
 | .mx=>((fun a b=>if a<b then b else a):Int->Int->Int)
 | .ln=>((fun xs=>(xs.length:Int)):LLA->Int)
 | .nc=>((fun n=>(n:Int)):Nat->Int)
 | .rp=>((fun n x=>List.replicate n.toNat x):Int->List AC->LLA)
 | .ap=>((fun xs ys=>xs++ys):LLA->LLA->LLA)
 | .tk=>((fun xs a n=>(xs.drop a).take n):LLA->Nat->Nat->LLA)
 | .st=>((fun xs i x=>xs.set i x):LLA->Nat->List AC->LLA)
 | .N=>((fun p q=>p/\q):Prop->Prop->Prop)
 | .X=>((fun xs z k K=>0<=z/\∃y,xs[z.toNat]? =some y/\y.length=k/\K y):LLA->Int->Nat->(List AC->Prop)->Prop)
 | .Y=>((fun k xs z K=>0<=z/\z.toNat<xs.length/\K z.toNat):Nat->LLA->Int->(Nat->Prop)->Prop)
 | .Z=>((fun lo n z K=>0<=z/\z.toNat<n/\K (lo+z.toNat)):Nat->Nat->Int->(Nat->Prop)->Prop)
 | .S=>((fun xs k lo hi K=>(∀x∈xs,x.length=k)/\Aj xs.length lo hi fun a b=>K ((xs.take b).drop a)):LLA->Nat->Option Int->Option Int->(LLA->Prop)->Prop)
 | .SO=>((fun es lo hi K=>Aj es.length lo hi fun a b=>K a (b-a)):LLA->Option Int->Option Int->(Nat->Nat->Prop)->Prop)
 | .E=>((fun op t xs ys K=>P.eqGuardType P.depth t=false/\(∃fs,P.underlying t=some (.struct fs))/\∃us vs r,xs=us.map .imm/\ys=vs.map .imm/\eqT P 8 t us vs=some r/\(match op with| .eql=>K r| .neq=>K (!r)|_=>False)):BinOp->TypeId->List AC->List AC->(Bool->Prop)->Prop)
 | .C=>((fun f h args K=>Con P f (toH h) args fun res h'=>∃eh,toH eh=h'/\K res eh):FuncId->EH->List AT->(AV->EH->Prop)->Prop)
 | .PC=>((fun f h n args K=>∃res rows,zc P f (toH h) n args (fun r s=>r=res/\s=rows)/\∃es:EH,toH es=rows.map .live/\K res es):FuncId->EH->Nat->List AT->(AV->EH->Prop)->Prop)
 | .L=>((fun c Q l h=>VC P n0 N (.loop c) (fun e T h=>∃l eh,T=lkT l/\h=toH eh/\Q e l eh) (lkT l) (toH h)):Code->(Exit->List (Nat×AV)->EH->Prop)->List (Nat×AV)->EH->Prop)
def okG(h:EH):AC->Bool
 | .imm u=>one u
 | .dead=>false
 | .own r| .sub r _ _| .ptr r _ _=>EE.isLive (nth h r)
 |_=>true
def zV(h:EH):List AC->Bool
 | []=>true
 |c::cs=>match okG h c with|true=>zV h cs|false=>false
def mU{α:Type}:List α->Nat
 | []=>0
 |_::l=>(mU l).succ
def Cs{α:Type}:List α->Nat->α->List α
 | [],_,_=>[]
 |_::l,0,y=>y::l
 |x::l,n+1,y=>x::Cs l n y
def tR:List AC->Nat->List AC->List AC
 |cs,_,[]=>cs
 | [],_,_::_=>[]
 |_::cs,0,y::ys=>y::tR cs 0 ys
 |c::cs,d+1,y::ys=>c::tR cs d (y::ys)
def Iz(x:List AC):Nat->Nat->List AC
 |0,k=>x.take k
 |d+1,k=>match x with| []=>[]|_::l=>Iz l d k
def ldG(q:Option Nat)(x:List AC)(off:Nat)(K:AV->Prop):Prop:=
 match q with
 |none=>match nth x off with|some c=>K (.t (.c c))|none=>False
 |some k=>match Nat.ble (off+k) (mU x)with|true=>K (.t (.agg (Iz x off k)))|false=>False
def FA(tab:List (TypeId×TI))(T:Nat->AV)(h:EH)(flds:List (Option (Nat×TypeId))):List (Nat×Operand)->List AC->(List AC->Prop)->Prop
 | [],cs,K=>K cs
 |(i,x)::ps,cs,K=>match ev T x with
  | .t y=>match nth flds i with
   |some (some (d,u))=>match ti tab u with
    |some j=>match Nat.beq j.size (mU y.cells)with
     |true=>match Nat.ble (d+mU y.cells) (mU cs)with
      |true=>match zV h y.cells with
       |true=>FA tab T h flds ps (tR cs d y.cells) K
       |false=>False
      |false=>False
     |false=>False
    |none=>False
   |_=>False
  |_=>False
def Bo(T:Nat->AV)(h:EH)(k:Nat):List (Nat×Operand)->LLA->(LLA->Prop)->Prop
 | [],es,K=>K es
 |(i,x)::ps,es,K=>match ev T x with
  | .t y=>match Nat.beq (mU y.cells) k with
   |true=>match Nat.blt i (mU es)with
    |true=>match zV h y.cells with
     |true=>Bo T h k ps (Cs es i y.cells) K
     |false=>False
    |false=>False
   |false=>False
  |_=>False
def si:List Value->List AC
 | []=>[]
 |v::l=> .imm v::si l
def sY:List Value->Bool
 | []=>true
 |v::l=>match one v with|true=>sY l|false=>false
def J7(x:List AC):Nat->LLA
 |0=>[]
 |n+1=>x::J7 x n
def Kt(g:Gd)(h:EH):AC->Option (LLA)
 | .N=>some []
 | .view xs=>some xs
 | .own r=>match nth h r with|some (.rw ab)=>some ab.es|_=>none
 | .sub r lo n=>match nth h r with|some (.rw ab)=>some (g .tk ab.es lo n)|_=>none
 |_=>none
def opI(T:Nat->AV):Option Operand->Option (Option Int)
 |none=>some none
 |some x=>match ev T x with| .t (.c (.imm (.int _ z)))=>some (some z)|_=>none
def kEq:IntKind->IntKind->Bool
 | .i64,.i64=>true
 | .u64,.u64=>true
 | .u8,.u8=>true
 | .i32,.i32=>true
 | .u32,.u32=>true
 |_,_=>false
theorem Jm{k k':IntKind}(h:kEq k k'=true):k=k':=by cases k<;>cases k'<;>first|rfl|cases h
def mP(g:Gd)(tab:List (TypeId×TI))(T:Nat->AV)(h:EH)(n:Nat)(o:Op)(K:AV->EH->Prop):Prop:=
 match o with
 | .move x=>K (ev T x) []
 | .assign x=>K (ev T x) []
 | .pick c a b=>match ev T c with| .t (.c (.imm (.bool q)))=>(match q with|true=>K (ev T a) []|false=>K (ev T b) [])|_=>False
 | .alloc t=>match ti tab t with
  |some i=>match Nat.beq (mU i.zero) i.size with
   |true=>match sY i.zero with
    |true=>K (.p n) [.bx t i.size (si i.zero)]
    |false=>False
   |false=>False
  |none=>False
 | .box t x=>match ev T x with
  | .t y=>match ti tab t with
   |some i=>match Nat.beq (mU y.cells) i.size with
    |true=>match zV h y.cells with
     |true=>K (.p n) [.bx t i.size y.cells]
     |false=>False
    |false=>False
   |none=>False
  |_=>False
 | .load t a=>match ti tab t with
  |some i=>match ev T a with
   | .t (.c (.ptr r e off))=>match nth h r with
    |some (.bx _ _ x)=>(match e with|0=>ldG i.agg x off (fun v=>K v [])|_=>False)
    |some (.rw ab)=>∃x,ab.es[e]? =some x/\ldG i.agg x off (fun v=>K v [])
    |_=>False
   | .t (.c (.eptr cs off))=>ldG i.agg cs off (fun v=>K v [])
   |_=>False
  |none=>False
 | .binOp op t x y _=>match ev T x with
  | .t (.c (.imm (.int k a)))=>match ev T y with
   | .t (.c (.imm (.int k' b)))=>(match kEq k k' with
    |true=>match op with
     | .add=>K (.t (.c (.imm (.int k (g .w .add k a b))))) []
     | .sub=>K (.t (.c (.imm (.int k (g .w .sub k a b))))) []
     | .mul=>K (.t (.c (.imm (.int k (g .w .mul k a b))))) []
     | .quo=>g .N (b≠0) (K (.t (.c (.imm (.int k (g .w .quo k a b))))) [])
     | .rem=>g .N (b≠0) (K (.t (.c (.imm (.int k (g .w .rem k a b))))) [])
     | .eql=>K (.t (.c (.imm (.bool (g .q .eql a b))))) []
     | .neq=>K (.t (.c (.imm (.bool (g .q .neq a b))))) []
     | .lss=>K (.t (.c (.imm (.bool (g .q .lss a b))))) []
     | .leq=>K (.t (.c (.imm (.bool (g .q .leq a b))))) []
     | .gtr=>K (.t (.c (.imm (.bool (g .q .gtr a b))))) []
     | .geq=>K (.t (.c (.imm (.bool (g .q .geq a b))))) []
     | .and=>K (.t (.c (.imm (.int k (g .w .and k a b))))) []
     | .or=>K (.t (.c (.imm (.int k (g .w .or k a b))))) []
     | .xor=>K (.t (.c (.imm (.int k (g .w .xor k a b))))) []
     |_=>False
    |false=>match op with
     | .shr=>g .N (0<=b) (K (.t (.c (.imm (.int k (g .w .shr k a b))))) [])
     |_=>False)
   |_=>False
  | .t (.c (.imm (.bool a)))=>match ev T y with
   | .t (.c (.imm (.bool b)))=>match (ti tab t).map (·.kd)with
    |some (some none)=>match op with
     | .eql=>K (.t (.c (.imm (.bool (g .qb .eql a b))))) []
     | .neq=>K (.t (.c (.imm (.bool (g .qb .neq a b))))) []
     |_=>False
    |_=>False
   |_=>False
  | .t (.agg xs)=>match ev T y with
   | .t (.agg ys)=>g .E op t xs ys (fun r=>K (.t (.c (.imm (.bool r)))) [])
   |_=>False
  |_=>False
 | .unOp op _ x=>match ev T x with
  | .t (.c (.imm (.int k a)))=>(match op with| .neg=>K (.t (.c (.imm (.int k (g .ng k a))))) []|_=>False)
  | .t (.c (.imm (.bool a)))=>(match op with| .not=>K (.t (.c (.imm (.bool (match a with|true=>false|false=>true))))) []|_=>False)
  |_=>False
 | .fieldAddr t x i=>match (ti tab t).bind (fun j=>nth j.flds i)with
  |some (some (d,_))=>match ev T x with
   | .t (.c (.ptr r j off))=>(match EE.isLive (nth h r)with|true=>K (.t (.c (.ptr r j (off+d)))) []|false=>False)
   | .t (.c (.eptr cs off))=>K (.t (.c (.eptr cs (off+d)))) []
   |_=>False
  |_=>False
 | .field t x i=>match (ti tab t).bind (fun j=>nth j.flds i)with
  |some (some (d,u))=>match ev T x with
   | .t (.agg xs)=>match ti tab u with|some j=>ldG j.agg xs d (fun v=>K v [])|none=>False
   |_=>False
  |_=>False
 | .indexAddr t x i=>match (ti tab t).bind (·.elem)with
  |some (_,k,_)=>match ev T i with
   | .t (.c (.imm (.int _ z)))=>match ev T x with
    | .v xs=>g .X xs z k (fun y=>K (.t (.c (.eptr y 0))) [])
    | .o r=>match nth h r with|some (.rw ab)=>(match Nat.beq ab.k k with|true=>g .Y k ab.es z (fun j=>K (.t (.c (.ptr r j 0))) [])|false=>False)|_=>False
    | .t (.c (.sub r lo m))=>match nth h r with|some (.rw ab)=>(match Nat.beq ab.k k with|true=>g .Z lo m z (fun j=>K (.t (.c (.ptr r j 0))) [])|false=>False)|_=>False
    |_=>False
   |_=>False
  |none=>False
 | .extract x i=>match ev T x with| .tup xs=>(match nth xs i with|some y=>K (.t y) []|none=>False)|_=>False
 | .nilCheck x=>match ev T x with
  | .t (.c (.ptr r i off))=>(match EE.isLive (nth h r)with|true=>K (.t (.c (.ptr r i off))) []|false=>False)
  | .t (.c (.eptr cs off))=>K (.t (.c (.eptr cs off))) []
  | .t (.c (.clo f rs))=>K (.t (.c (.clo f rs))) []
  |_=>False
 | .makeFunc fn first cap=>match fn with
  | .func f=>match first.toList with
   | []=>(match GU T cap.toList with|some rs=>K (.t (.c (.clo f rs))) []|none=>False)
   |_=>False
  |_=>False
 | .convert s d x=>match ev T x with
  | .t (.c (.imm (.int _ a)))=>match (ti tab s).bind (·.kd)with
   |some (some _)=>match (ti tab d).bind (·.kd)with
    |some (some k)=>K (.t (.c (.imm (.int k (g .cv k a))))) []
    |_=>False
   |_=>False
  |_=>False
 | .makeSlice t l c=>match ev T l with
  | .t (.c (.imm (.int .i64 a)))=>match ev T c with
   | .t (.c (.imm (.int .i64 b)))=>match (ti tab t).bind (·.elem)with
    |some (e,k,by_)=>match ti tab e with
     |some j=>match Nat.beq (mU j.zero) k with
      |true=>match Nat.blt 0 k with
       |true=>match sY j.zero with
        |true=>g .N (a=b/\0<=a/\(by_:Int)*a<=140737488355328/\a<=4611686018427387904) (K (.o n) [.rw ⟨e,k,g .rp a (si j.zero)⟩])
        |false=>False
       |false=>False
      |false=>False
     |none=>False
    |none=>False
   |_=>False
  |_=>False
 | .build t parts=>match ti tab t with
  |some i=>match i.sok with
   |true=>match sY i.zero with
    |true=>FA tab T h i.flds parts.toList (si i.zero) (fun cs=>K (.t (.agg cs)) [])
    |false=>False
   |false=>False
  |none=>False
 | .buildSlice t len parts=>match (ti tab t).bind (·.elem)with
  |some (e,k,_)=>match ti tab e with
   |some j=>match Nat.beq (mU j.zero) k with
    |true=>match Nat.blt 0 k with
     |true=>match Nat.ble (len*k) 16777216 with
      |true=>match sY j.zero with
       |true=>Bo T h k parts.toList (J7 (si j.zero) len) (fun es=>K (.o n) [.rw ⟨e,k,es⟩])
       |false=>False
      |false=>False
     |false=>False
    |false=>False
   |none=>False
  |none=>False
 | .slice t x lo hi none=>match (ti tab t).bind (·.elem)with
  |some (e,k,_)=>match opI T lo with
   |some lo=>match opI T hi with
    |some hi=>match ev T x with
     | .t (.c (.N))=>g .S [] k lo hi (fun ys=>K (.t (.c (.view []))) [])
     | .v xs=>g .S xs k lo hi (fun ys=>K (.v ys) [])
     | .o r=>match nth h r with|some (.rw ab)=>(match Nat.beq ab.k k with|true=>g .SO ab.es lo hi (fun a m=>K (.t (.c (.sub r a m))) [])|false=>False)|_=>False
     |_=>False
    |none=>False
   |none=>False
  |none=>False
 | .call c=>match c.callee with
  | .builtin .len=>match c.args.toList with
   | [x]=>match c.argTypes.toList with
    | [t]=>match (ti tab t).bind (·.elem)with
     |some _=>match ev T x with
      | .t (.c (.N))=>K (.t (.c (.imm (.int .i64 0)))) []
      | .v xs=>K (.t (.c (.imm (.int .i64 (g .ln xs))))) []
      | .o r=>match nth h r with|some (.rw ab)=>K (.t (.c (.imm (.int .i64 (g .ln ab.es))))) []|_=>False
      | .t (.c (.sub r lo m))=>match nth h r with|some (.rw ab)=>K (.t (.c (.imm (.int .i64 (g .nc m))))) []|_=>False
      |_=>False
     |none=>False
    |_=>False
   |_=>False
  | .builtin .min=>match c.args.toList with
   | [x,y]=>match ev T x with
    | .t (.c (.imm (.int .i64 a)))=>match ev T y with
     | .t (.c (.imm (.int .i64 b)))=>K (.t (.c (.imm (.int .i64 (g .mn a b))))) []
     |_=>False
    |_=>False
   |_=>False
  | .builtin .max=>match c.args.toList with
   | [x,y]=>match ev T x with
    | .t (.c (.imm (.int .i64 a)))=>match ev T y with
     | .t (.c (.imm (.int .i64 b)))=>K (.t (.c (.imm (.int .i64 (g .mx a b))))) []
     |_=>False
    |_=>False
   |_=>False
  |_=>False
 |_=>False
def stG(g:Gd)(tab:List (TypeId×TI))(T:Nat->AV)(h:EH)(t:TypeId)(x y:Operand)(K:EH->Prop):Prop:=
 match ev T x with
 | .t (.c (.ptr r i off))=>match ev T y with
  | .t v=>match ti tab t with
   |some j=>match Nat.beq (mU v.cells) j.size with
    |true=>match zV h v.cells with
     |true=>match nth h r with
      |some (.bx t' k e)=>(match i with
       |0=>match Nat.ble (off+j.size) (mU e)with
        |true=>K (Cs h r (.bx t' k (tR e off v.cells)))
        |false=>False
       |_=>False)
      |some (.rw ab)=>(match Nat.beq j.size ab.k with
       |true=>(match off with
        |0=>g .N (∃e,ab.es[i]? =some e/\e.length=ab.k) (K (Cs h r (.rw ⟨ab.ty,ab.k,g .st ab.es i v.cells⟩)))
        |_=>False)
       |false=>∃e,ab.es[i]? =some e/\(match Nat.ble (off+j.size) (mU e)with
        |true=>K (Cs h r (.rw ⟨ab.ty,ab.k,g .st ab.es i (tR e off v.cells)⟩))
        |false=>False))
      |_=>False
     |false=>False
    |false=>False
   |none=>False
  |_=>False
 |_=>False
def apG(g:Gd)(tab:List (TypeId×TI))(T:Nat->AV)(h:EH)(c:Call)(K:AV->EH->Prop):Prop:=
 match c.args.toList with
 | [s,x]=>match c.argTypes.toList with
  | [t,t']=>match Nat.beq t t' with
   |true=>match (ti tab t).bind (·.elem)with
    |some (e,k,by_)=>match (ti tab e)with
     |some j=>match Nat.beq (mU j.zero) k with
      |true=>match Nat.blt 0 k with
       |true=>match ev T x with
        | .t (.c z)=>match Kt g h z with
         |some ys=>match ev T s with
          | .t (.c (.N))=>g .N ((∀x∈ys,x.length=k)/\ys.length*by_<=140737488355328/\ys.length<=4611686018427387904) (K (.t (.c (.own (mU h)))) (h++[.rw ⟨e,k,g .ap [] ys⟩]))
          | .o r=>match nth h r with
           |some (.rw ab)=>match Nat.beq ab.ty e with
            |true=>match Nat.beq ab.k k with
             |true=>g .N ((∀x∈ys,x.length=k)/\(ab.es.length+ys.length)*by_<=140737488355328/\ab.es.length+ys.length<=4611686018427387904) (K (.t (.c (.own (mU h)))) (Cs h r .gn++[.rw ⟨e,k,g .ap ab.es ys⟩]))
             |false=>False
            |false=>False
           |_=>False
          |_=>False
         |none=>False
        |_=>False
       |false=>False
      |false=>False
     |none=>False
    |none=>False
   |false=>False
  |_=>False
 |_=>False
def zT(T:Nat->AV):List Operand->Option (List AT)
 | []=>some []
 |x::l=>match ev T x with| .t y=>(match zT T l with|some ys=>some (y::ys)|none=>none)|_=>none
def opG(g:Gd)(tab:List (TypeId×TI))(T:Nat->AV)(h:EH)(o:Op)(K:AV->EH->Prop):Prop:=
 match o with
 | .store t x y=>stG g tab T h t x y (fun h'=>K (.t (.c (.imm undef))) h')
 | .call c=>match c.callee with
  | .builtin .append=>apG g tab T h c K
  | .value (.func f)=>match zT T c.args.toList with|some args=>g .C f h args K|none=>False
  | .value (.tmp t)=>(match T t with
   | .t (.c (.clo f rs))=>(match zT T c.args.toList with|some args=>g .C f h (args++rs.map fun r=> .c (.ptr r 0 0)) K|none=>False)
   |_=>False)
  |_=>mP g tab T h (mU h) (.call c) (fun res rows=>K res (h++rows))
 |o=>mP g tab T h (mU h) o (fun res rows=>K res (h++rows))
def Iw(g:Gd)(tab:List (TypeId×TI))(T:Nat->AV)(h:EH)(o:Op)(K:AV->EH->Prop):Prop:=
 match o with
 | .call c=>match c.callee with
  | .value (.func f)=>match zT T c.args.toList with|some args=>g .PC f h (mU h) args (fun res rows=>K res (h++rows))|none=>False
  |_=>mP g tab T h (mU h) (.call c) (fun res rows=>K res (h++rows))
 |o=>mP g tab T h (mU h) o (fun res rows=>K res (h++rows))
def s9(l:List (Nat×AV)):Option Tmp->AV->List (Nat×AV)
 |none,_=>l
 |some d,v=>(d,v)::l
def Hz(ops:List Oper)(i:Nat):Option Tmp:=match nth ops i with|some o=>o.dst|none=>none
def lz(g:Gd)(tab:List (TypeId×TI))(ops:List Oper)(Q:List (Nat×AV)->EH->Prop):List Oper->Nat->List (Nat×AV)->EH->Prop
 | [],_,l,h=>Q l h
 |o::os,hd,l,h=>
  match o.guard with
  |none=>(match hd with
   |0=>opG g tab (lkT l) h o.op (fun res h'=>lz g tab ops Q os 0 (s9 l o.dst res) h')
   |hd+1=>Iw g tab (lkT l) h o.op (fun res h'=>lz g tab ops Q os hd (s9 l o.dst res) h'))
  |some (gi,want)=>match Hz ops gi with
   |none=>lz g tab ops Q os hd.pred (s9 l o.dst (.t (.c (.imm undef)))) h
   |some t=>match lkT l t with
    | .t (.c (.imm (.bool b)))=>(match want with
     |true=>(match b with
      |true=>(match hd with
       |0=>opG g tab (lkT l) h o.op (fun res h'=>lz g tab ops Q os 0 (s9 l o.dst res) h')
       |hd+1=>Iw g tab (lkT l) h o.op (fun res h'=>lz g tab ops Q os hd (s9 l o.dst res) h'))
      |false=>lz g tab ops Q os hd.pred (s9 l o.dst (.t (.c (.imm undef)))) h)
     |false=>(match b with
      |false=>(match hd with
       |0=>opG g tab (lkT l) h o.op (fun res h'=>lz g tab ops Q os 0 (s9 l o.dst res) h')
       |hd+1=>Iw g tab (lkT l) h o.op (fun res h'=>lz g tab ops Q os hd (s9 l o.dst res) h'))
      |true=>lz g tab ops Q os hd.pred (s9 l o.dst (.t (.c (.imm undef)))) h))
    | .t (.c (.imm _))=>lz g tab ops Q os hd.pred (s9 l o.dst (.t (.c (.imm undef)))) h
    |_=>False
def Hv(d:Tmp):List Operand->Bool
 | []=>false
 | .tmp t::l=>match Nat.beq t d with|true=>true|false=>Hv d l
 |_::l=>Hv d l
def I4(d:Tmp):List Oper->Bool
 | []=>false
 |o::os=>match Hv d o.op.operands.toList with|true=>true|false=>I4 d os
def wR(all:List Oper):List Oper->Nat
 | []=>0
 |o::os=>match o.op with
  | .store _ _ _=>0
  | .assign _=>(match o.dst with|some d=>(match I4 d all with|true=>0|false=>(wR all os).succ)|none=>(wR all os).succ)
  |_=>(wR all os).succ
def vV(g:Gd)(tab:List (TypeId×TI)):Code->(Exit->List (Nat×AV)->EH->Prop)->List (Nat×AV)->EH->Prop
 | .skip,Q,l,h=>Q .normal l h
 | .ret,Q,l,h=>Q .ret l h
 | .exit id,Q,l,h=>Q (.exit id) l h
 | .seq x y,Q,l,h=>vV g tab x (fun e l h=>match e with| .normal=>vV g tab y Q l h|e=>Q e l h) l h
 | .cond c x y,Q,l,h=>match ev (lkT l) c with
  | .t (.c (.imm (.bool b)))=>(match b with|true=>vV g tab x Q l h|false=>vV g tab y Q l h)
  |_=>False
 | .block id c,Q,l,h=>vV g tab c (fun e l h=>match e with| .exit i=>(match Nat.beq i id with|true=>Q .normal l h|false=>Q (.exit i) l h)|e=>Q e l h) l h
 | .region _ ops draw,Q,l,h=>match draw with
  |false=>lz g tab ops.toList (fun l h=>Q .normal l h) ops.toList 0 l h
  |true=>lz g tab ops.toList (fun l h=>Q .normal l h) ops.toList (wR ops.toList ops.toList) l h
 | .loop c,Q,l,h=>g .L c Q l h
 |_,_,_,_=>False
def fS(N:Nat):Code->Bool
 | .seq x y=>fS N x&&fS N y
 | .cond _ x y=>fS N x&&fS N y
 | .block _ c=>fS N c
 | .region _ ops draw=>gg N ops&&(!draw||uB ops (wR ops.toList ops.toList))
 | .loop c=>fS N c
 |_=>true
end Go.Proofs.YtckchgoblpgpbaaGreat.Am
