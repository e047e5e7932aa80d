/- A part of AM, a framework of the prover own: functions of any program as maps of data. -/
import Derived.Test.YtckchgoblpgpbaaGreatJ6ak
set_option linter.unusedVariables false
set_option linter.unusedSimpArgs false
namespace Go.Proofs.YtckchgoblpgpbaaGreat.Am
open Go.RowKit
def nmC(r:Nat)(d c' c:AC):Prop:=c'=c\/(c= .own r/\c'=d)\/(c= .N/\c'= .fv [] [])
def nmL(r:Nat)(d:AC):List AC->List AC->Prop
 | [],[]=>True
 |c'::l',c::l=>nmC r d c' c/\nmL r d l' l
 |_,_=>False
def nmV(r:Nat)(d:AC)(v' v:AV):Prop:=match v',v with
 | .t (.c .dead),_=>True
 | .t (.c c'),.t (.c c)=>nmC r d c' c
 | .t (.agg l'),.t (.agg l)=>nmL r d l' l
 |v',v=>v'=v
def nmK(r:Nat)(d:AC)(T:Nat->AV):List (Nat×AV)->Prop
 | []=>True
 |(k,v)::l=>nmV r d v (T k)/\nmK r d T l
def nmE(r:Nat)(d:AC):EE->EE->Prop
 | .gn,_=>True
 | .bx t' k' x',.bx t k x=>t'=t/\k'=k/\nmL r d x' x
 | .rw ab',.rw ab=>ab'=ab\/∃(j:Nat)(y' y:List AC),ab'.ty=ab.ty/\ab'.k=ab.k/\ab'.es=ab.es.set j y'/\ab.es[j]? =some y/\nmL r d y' y
 |_,_=>False
def nmH(r:Nat)(d:AC):Nat->EH->EH->Prop
 |_,[],[]=>True
 |i,e'::h',e::h=>(match Nat.beq i r with|true=>e'= .gn|false=>nmE r d e' e)/\nmH r d i.succ h' h
 |_,_,_=>False
theorem gy.trans2{β:BP}{F F1:Nat->Prop}{w w' w'':World}{m m' m'':AM}{h h' h'':AH}(s1:gy F1 w m h w' m' h')(s2:gy F w' m' h' w'' m'' h''):gy F w m h w'' m'' h'':=by
 have no:∀b,b<w.heap.size->(∀(r:Nat)(ab:AB)(c:Nat),h[r]? =some (.live ab)->m[r]? ≠some (some (b,c)))->∀(r:Nat)(ab:AB)(c:Nat),h'[r]? =some (.live ab)->m'[r]? ≠some (some (b,c)):=fun b hb hn r ab c h1 h2=>by
  rcases s1.own r ab b c h1 h2 with⟨r0,ab0,c0,h3,h4⟩|h3
  ·exact hn r0 ab0 c0 h3 h4
  ·omega
 refine⟨s2.hp,s1.keeps.trans s2.keeps,s2.os.trans s1.os,s2.tape.trans s1.tape,s2.output.trans s1.output,Nat.le_trans s1.size s2.size,fun b hb hn hx=> ?_,fun r ab b c h1 h2=> ?_,fun b cur ty hn hc=> ?_⟩
 ·rw [s2.blk b (Nat.lt_of_lt_of_le hb s1.size) (no b hb hn) hx,s1.blk b hb hn hx]
 ·rcases s2.own r ab b c h1 h2 with⟨r0,ab0,c0,h3,h4⟩|h3
  ·exact s1.own r0 ab0 b c0 h3 h4
  ·exact .inr (Nat.le_trans s1.size h3)
 ·obtain⟨ha,h1,h2⟩:=s1.szx b cur ty hn hc
  obtain⟨hd,h3,h4⟩:=s2.szx b ha ty (no b (Array.getElem?_eq_some_iff.1 hc).1 hn) h1
  exact⟨hd,h3,h4.trans h2⟩
def n6:EH->EH->Bool
 | [],_=>true
 | .gn::h,_::h'=>n6 h h'
 |_::h,e::h'=>match EE.isLive (some e)with|true=>n6 h h'|false=>false
 |_::_,[]=>false
theorem tq:∀{h h':EH},n6 h h'=true->∀(i:Nat)(ab:AB),(toH h)[i]? =some (.live ab)->∃ab',(toH h')[i]? =some (.live ab')
 | [],_,_,i,ab,hi=>by simp [toH]at hi
 |e::h,[],hb,i,ab,hi=>by cases e<;>cases hb
 |e::h,e'::h',hb,0,ab,hi=>by
  simp only [toH,zqA,zqw,zqy]at hi⊢
  cases e with
  |gn=>cases hi
  |bx t k x=>unfold n6 at hb;cases e'<;>first|exact⟨_,rfl⟩|cases hb
  |rw ab0=>unfold n6 at hb;cases e'<;>first|exact⟨_,rfl⟩|cases hb
 |e::h,e'::h',hb,i+1,ab,hi=>by
  have ha:n6 h h'=true:=by
   cases e with
   |gn=>exact hb
   |bx t k x=>unfold n6 at hb;split at hb<;>first|exact hb|cases hb
   |rw ab0=>unfold n6 at hb;split at hb<;>first|exact hb|cases hb
  have:=tq ha i ab (by simpa [toH]using hi)
  simpa [toH]using this
section
variable {F:Nat->Prop}{w:World}{m:AM}{h h':EH}{r:Nat}{d:AC}{t k:Nat}{es:LLA}
theorem kg:∀{l' l:List AC},nmL r d l' l->l'.length=l.length/\∀(i:Nat)(c':AC),l'[i]? =some c'->∃c,l[i]? =some c/\nmC r d c' c
 | [],[],_=>⟨rfl,fun i c' h=>by simp at h⟩
 | [],_::_,h=>h.elim
 |_::_,[],h=>h.elim
 |x::a,y::b,h=>by
  have ih:=kg h.2
  refine⟨by simp [ih.1],fun i c' hc=> ?_⟩
  cases i with
  |zero=>simp at hc;subst hc;exact⟨y,rfl,h.1⟩
  |succ i=>obtain⟨c,h1,h2⟩:=ih.2 i c' (by simpa using hc);exact⟨c,by simpa using h1,h2⟩
theorem se{T:Nat->AV}:∀{l:List (Nat×AV)},nmK r d T l->∀q,lkT l q= .t (.c .dead)\/nmV r d (lkT l q) (T q)
 | [],_,q=> .inl rfl
 |(k,v)::l,hs,q=>by
  simp only [lkT]
  by_cases hd:q=k
  ·subst hd;rw [if_pos rfl];exact .inr hs.1
  ·rw [if_neg hd];exact se hs.2 q
theorem pY:∀{h' h:EH}{i:Nat},nmH r d i h' h->h'.length=h.length
 | [],[],_,_=>rfl
 |_::h',_::h,i,hs=>by simp [pY hs.2]
 | [],_::_,_,hs=>hs.elim
 |_::_,[],_,hs=>hs.elim
theorem wz:∀{h' h:EH}{i:Nat},nmH r d i h' h->∀(q:Nat)(e':EE),h'[q]? =some e'->∃e,h[q]? =some e/\(i+q=r->e'= .gn)/\(i+q≠r->nmE r d e' e)
 | [],[],_,_,q,e',hq=>by simp at hq
 | [],_::_,_,hs,_,_,_=>hs.elim
 |_::_,[],_,hs,_,_,_=>hs.elim
 |x'::h',x::h,i,hs,0,e',hq=>by
  simp only [zqw,zqy]at hq
  subst hq
  refine⟨x,rfl,fun hr=> ?_,fun hr=> ?_⟩
  ·have h1:=hs.1
   have hb:Nat.beq i r=true:=by rw [show i=r from hr];exact Nat.beq_refl r
   rw [hb]at h1;exact h1
  ·have h1:=hs.1
   cases hb:Nat.beq i r with
   |true=>exact absurd (bt hb) hr
   |false=>rw [hb]at h1;exact h1
 |x'::h',x::h,i,hs,q+1,e',hq=>by
  obtain⟨e,h1,h2,h3⟩:=wz hs.2 q e' (by simpa using hq)
  refine⟨e,by simpa using h1,fun hr=>h2 (by omega),fun hr=>h3 (by omega)⟩
theorem fV(hs:nmH r d 0 h' h){q:Nat}{ab':AB}(hq:(toH h')[q]? =some (.live ab')):q≠r/\∃ab,(toH h)[q]? =some (.live ab)/\ab'.ty=ab.ty/\ab'.k=ab.k/\ab'.es.length=ab.es.length/\∀(i:Nat)(x':List AC),ab'.es[i]? =some x'->∃x,ab.es[i]? =some x/\x'.length=x.length/\∀(j:Nat)(c':AC),x'[j]? =some c'->∃c,x[j]? =some c/\nmC r d c' c:=by
 have hb:(toH h')[q]? =(h'[q]?).map EE.e:=zqi ..
 have h2:(toH h)[q]? =(h[q]?).map EE.e:=zqi ..
 rw [hb]at hq
 rw [h2]
 cases he:h'[q]? with
 |none=>rw [he]at hq;cases hq
 |some e'=>
  rw [he]at hq
  obtain⟨e,g1,g2,g3⟩:=wz hs q e' he
  simp only [Nat.zero_add]at g2 g3
  have ha:q≠r:=fun h=>by have:=g2 h;subst this;cases hq
  refine⟨ha,?_⟩
  have g3:=g3 ha
  rw [g1]
  cases e' with
  |gn=>cases hq
  |bx t' k' x'=>
   cases e with
   |gn=>exact g3.elim
   |rw ab=>exact g3.elim
   |bx t k x=>
    obtain⟨rfl,rfl,g4⟩:=g3
    simp only [Option.map_some,EE.e,zqy,AE.live.injEq]at hq
    subst hq
    refine⟨⟨t',k',[x]⟩,rfl,rfl,rfl,rfl,fun i y hy=> ?_⟩
    cases i with
    |succ i=>simp at hy
    |zero=>
     simp only [zqw,zqy]at hy
     subst hy
     exact⟨x,rfl,(kg g4).1,(kg g4).2⟩
  |rw ab1=>
   cases e with
   |gn=>exact g3.elim
   |bx t k x=>exact g3.elim
   |rw ab=>
    simp only [Option.map_some,EE.e,zqy,AE.live.injEq]at hq
    subst hq
    rcases g3 with g3|⟨j,y',y,e1,e2,e3,e4,e5⟩
    ·rw [g3];exact⟨ab,rfl,rfl,rfl,rfl,fun i y hy=>⟨y,hy,rfl,fun j c hc=>⟨c,hc,.inl rfl⟩⟩⟩
    ·refine⟨ab,rfl,e1,e2,by rw [e3,List.length_set],fun i z hz=> ?_⟩
     rw [e3,List.getElem?_set]at hz
     by_cases hji:j=i
     ·subst hji
      rw [if_pos rfl,if_pos (List.getElem?_eq_some_iff.1 e4).1]at hz
      cases hz
      exact⟨y,e4,(kg e5).1,(kg e5).2⟩
     ·rw [if_neg hji]at hz
      exact⟨z,hz,rfl,fun j c hc=>⟨c,hc,.inl rfl⟩⟩
theorem rb(hs:nmH r d 0 h' h):dL m (toH h) m (toH h'):=fun q=>by
 have hb:(toH h')[q]? =(h'[q]?).map EE.e:=zqi ..
 have h2:(toH h)[q]? =(h[q]?).map EE.e:=zqi ..
 rw [hb,h2]
 cases he:h'[q]? with
 |none=>
  have:h[q]? =none:=by rw [List.getElem?_eq_none_iff]at he⊢;rw [<-pY hs];exact he
  rw [this]
  exact⟨fun h=>(by simp at h),fun ab h=>(by simp at h)⟩
 |some e'=>
  obtain⟨e,g1,g2,g3⟩:=wz hs q e' he
  simp only [Nat.zero_add]at g2 g3
  rw [g1]
  by_cases hqr:q=r
  ·rw [g2 hqr];exact⟨fun _=>rfl,fun ab _=> .inl rfl⟩
  ·have g3:=g3 hqr
   cases e' with
   |gn=>exact⟨fun _=>rfl,fun ab _=> .inl rfl⟩
   |bx t' k' x'=>
    cases e with
    |gn=>exact g3.elim
    |rw ab=>exact g3.elim
    |bx t k x=>
     obtain⟨rfl,rfl,g4⟩:=g3
     refine⟨fun h=>(by cases h),fun ab ha=> ?_⟩
     simp only [Option.map_some,EE.e,zqy,AE.live.injEq]at ha
     subst ha
     exact .inr ⟨_,rfl,rfl,rfl,rfl⟩
   |rw ab1=>
    cases e with
    |gn=>exact g3.elim
    |bx t k x=>exact g3.elim
    |rw ab=>
     refine⟨fun h=>(by cases h),fun hc ha=> ?_⟩
     simp only [Option.map_some,EE.e,zqy,AE.live.injEq]at ha
     subst ha
     rcases g3 with g3|⟨j,y',y,e1,e2,e3,e4,e5⟩
     ·rw [g3];exact .inr ⟨_,rfl,rfl,rfl,rfl⟩
     ·exact .inr ⟨_,rfl,e2,by rw [e3,List.length_set],rfl⟩
end
theorem Rel.nm{β:BP}{F:Nat->Prop}{w0 w:World}{m0 m:AM}{h0:AH}{N:Nat}{l:List (Nat×AV)}{h:EH}{a:Act}{r t k:Nat}{es:LLA}(rl:Rel F w0 m0 h0 N (lkT l) (toH h) a w m)(hr:nth h r=some (.rw ⟨t,k,es⟩))(hb:∀e∈es,e.all jP=true):
  ∃(b:Nat)(F':Nat->Prop),(es≠[]->∃c,m[r]? =some (some (b,c))/\¬F b)/\dx F F' w0 m0 h0/\∀l2 h2,nmK r (.fv (hd1 b es++fpE es) (es.map (·.map vwC))) (lkT l) l2->nmH r (.fv (hd1 b es++fpE es) (es.map (·.map vwC))) 0 h2 h->Rel F' w0 m0 h0 N (lkT l2) (toH h2) a w m:=by
 have hH:=rl.st.hp
 have hf:(toH h)[r]? =some (.live ⟨t,k,es⟩):=dJ hr
 have hP:r<h.length:=by rw [ee]at hr;exact(List.getElem?_eq_some_iff.1 hr).1
 obtain⟨b,hC⟩:∃b,∀(b' c:Nat),m[r]? =some (some (b',c))->b=b':=⟨match m[r]? with|some (some (b,_))=>b|_=>0,fun b' c h=>by simp only [h]⟩
 let F':Nat->Prop:=fun x=>F x\/(es≠[]/\x=b)
 have hg:es≠[]->∃c,m[r]? =some (some (b,c))/\¬F b:=fun ha=>by
  rcases hH.at_ r _ hf with⟨_,h3⟩|⟨b2,c2,h3,h4,_⟩
  ·exact(ha (zqv h3)).elim
  ·obtain rfl:=hC b2 c2 h3;exact⟨c2,h3,h4⟩
 have ht:es≠[]->(w0.heap.size<=b\/∃(r1:Nat)(ab1:AB)(c1:Nat),h0[r1]? =some (.live ab1)/\m0[r1]? =some (some (b,c1))):=fun ha=>by
  obtain⟨c,h3,_⟩:=hg ha
  rcases rl.st.own r _ b c hf h3 with h4|h4
  ·exact .inr h4
  ·exact .inl h4
 have hF:∀x,F x->F' x:=fun x hx=> .inl hx
 refine⟨b,F',hg,⟨hF,fun x hx=> ?_⟩,fun l2 h2 hK hN=> ?_⟩
 ·rcases hx with hx|⟨ha,rfl⟩
  ·exact .inl hx
  ·rcases ht ha with h4|h4
   ·exact .inr (.inl h4)
   ·exact .inr (.inr h4)
 obtain⟨d,hd⟩:∃d:AC,d= .fv (hd1 b es++fpE es) (es.map (·.map vwC)):=⟨_,rfl⟩
 rw [<-hd]at hK hN
 have hk:=rb (m:=m) hN
 let bl:Nat->Nat:=fun q=>match m[q]? with|some (some (b,_))=>b|_=>0
 have hw:∀(r:Nat)(ab:AB)(b c:Nat),(toH h)[r]? =some (.live ab)->m[r]? =some (some (b,c))->bl r=b:=fun r0 ab b c _ h2=>by show(match m[r0]? with|some (some (b,_))=>b|_=>0)=b;simp only [h2]
 have hE:∀x∈fpE es,F x:=fun x hx=>by
  obtain⟨e,he,hx⟩:=List.mem_flatMap.1 hx
  obtain⟨c,hc,hx⟩:=List.mem_flatMap.1 hx
  obtain⟨i,hi,rfl⟩:=List.getElem_of_mem he
  obtain⟨j,hj,rfl⟩:=List.getElem_of_mem hc
  rcases hH.at_ r _ hf with⟨_,h3⟩|⟨b2,c2,_,_,hB⟩
  ·simp only at h3;omega
  ·obtain⟨u,_,_,hu⟩:=hB.cell (i:=i) (zqc hi) j _ (zqc hj)
   exact hu.fp x hx
 have hD:∀u,RC F w m (toH h) (.own r) u->RC F' w m (toH h2) d u:=fun u hu=>by
  have hs:=o9.sound (β:=bl) hH hw (c:= .own r) (d:= .fv (hd1 (bl r) es++fpE es) (es.map (·.map vwC))) (by
   refine .row r ⟨t,k,es⟩ es hf rfl (fun i x y hx hy=>by rw [show es[i]? =some x from hx]at hy;cases hy;rfl) fun i x y hx hy j c d hc hd=> ?_
   rw [show es[i]? =some x from hx]at hy
   cases hy
   rw [hc]at hd
   cases hd
   have:=List.all_eq_true.1 (hb x (zqd hx)) c (zqd hc)
   cases c<;>first|exact .imm _|exact .fv _ _|cases this) hu
  rw [hd]
  show SP F' w _ (.view _) u
  have hA:hd1 (bl r) es=hd1 b es:=by
   cases ha:es with
   |nil=>rfl
   |cons e es'=>
    obtain⟨c,h3,_⟩:=hg (by rw [ha];simp)
    rw [hw r _ b c hf h3]
  simp only [fpC,vwC]at hs
  rw [hA]at hs
  refine SP.ext (fun x hx _=> ?_) (fun _ _ _=>rfl) hs
  rcases List.mem_append.1 hx with hx|hx
  ·cases ha:es with
   |nil=>rw [ha]at hx;simp [hd1]at hx
   |cons e es'=>rw [ha]at hx;simp only [hd1,List.mem_singleton]at hx;exact .inr ⟨by rw [ha];simp,hx⟩
  ·exact .inl (hE x hx)
 have cell:∀(c c':AC)(u:Value),RC F w m (toH h) c u->nmC r d c' c->RC F' w m (toH h2) c' u:=fun c c' u hu hc=>by
  rcases hc with rfl|⟨rfl,rfl⟩|⟨rfl,rfl⟩
  ·exact RC.ext hF (fun _ _=>rfl) hk hu
  ·exact hD u hu
  ·have hM:u= .slice none 0 0:=hu
   subst hM
   show SP F' w [] (.view []) (.slice none 0 0)
   unfold SP
   exact⟨none,0,rfl,Nat.le_refl _,Nat.zero_le _,.inl ⟨rfl,rfl⟩⟩
 have hh:∀x,F' x->x<w.heap.size:=fun x hx=>by
  rcases hx with hx|⟨ha,rfl⟩
  ·exact hH.old x hx
  ·obtain⟨c,h3,_⟩:=hg ha;exact(hH.lt hf h3).2
 have hl:(toH h2).length=(toH h).length:=by rw [aQ,aQ];exact pY hN
 have hz:RH F' w m (toH h2):=by
  refine⟨fun q hv hq=> ?_,fun q q' ab hv b1 c c' hq hI hm hG=> ?_,by rw [hl];exact hH.len,hh,hH.lo⟩
  ·obtain⟨hJ,ab,h1,h2,h3,h4,h5⟩:=fV hN hq
   rcases hH.at_ q ab h1 with⟨g1,g2⟩|⟨b1,cap,g1,g2,cur,g3,g4,g5,g6,g7⟩
   ·exact .inl ⟨g1,by rw [h4];exact g2⟩
   ·refine .inr ⟨b1,cap,g1,fun hx=> ?_,cur,by rw [h2];exact g3,by rw [h3];exact g4,by rw [h4];exact g5,g6,fun i x' hx=> ?_⟩
    ·rcases hx with hx|⟨ha,hx⟩
     ·exact g2 hx
     ·obtain⟨c,h6,_⟩:=hg ha
      rw [hx]at g1
      exact hJ (hH.inj q r ab _ b cap c h1 hf g1 h6)
    ·obtain⟨x,k1,k2,k3⟩:=h5 i x' hx
     obtain⟨k4,k5⟩:=g7 i x k1
     rw [h3]
     refine⟨by rw [k2];exact k4,fun j c' hc=> ?_⟩
     obtain⟨c,k6,k7⟩:=k3 j c' hc
     obtain⟨u,k8,k9,hO⟩:=k5 j c k6
     exact⟨u,k8,k9,cell c c' u hO k7⟩
  ·obtain⟨_,a1,g1,_⟩:=fV hN hq
   obtain⟨_,a2,g2,_⟩:=fV hN hI
   exact hH.inj q q' a1 a2 b1 c c' g1 g2 hm hG
 have hL:∀(xs ys:List AC)(u:Value),RT F w m (toH h) (.agg xs) u->nmL r d ys xs->RT F' w m (toH h2) (.agg ys) u:=fun xs ys u hx hn=>by
  obtain⟨vs,h1,h2,h3⟩:=hx
  refine⟨vs,h1,by rw [h2,(kg hn).1],fun j y hj=> ?_⟩
  obtain⟨c,k1,k2⟩:=(kg hn).2 j y hj
  obtain⟨u,hu,ho,hr⟩:=h3 j c k1
  exact⟨u,hu,ho,cell c y u hr k2⟩
 have hV:∀(x y:AV)(u:Value),RV F w m (toH h) x u->nmV r d y x->RV F' w m (toH h2) y u:=fun x y u hx hn=>by
  unfold nmV at hn
  split at hn
  ·exact trivial
  ·exact cell _ _ u hx hn
  ·exact hL _ _ u hx hn
  ·subst hn;exact RV.ext hF (fun _ _=>rfl) hk hx
 obtain⟨tm,st,df,sz⟩:=rl
 refine⟨fun q=> ?_,⟨hz,dL.trans st.keeps hk,st.os,st.tape,st.output,st.size,st.blk,fun q hv b1 c hq hm=> ?_,st.szx⟩,df,sz⟩
 ·rcases se hK q with h1|h1
  ·rw [h1];exact trivial
  ·exact hV _ _ _ (tm q) h1
 ·obtain⟨_,ab,g1,_⟩:=fV hN hq
  exact st.own q ab b1 c g1 hm
structure Ej(lo:Nat)(h:EH)(bs:List Nat):Prop where
 nd:bs.Nodup
 ge:∀x∈bs,lo<=x
 old:∀x∈fpH h,x<lo
section
variable {P:Program}{tab:List (TypeId × TI)}{n0 N:Nat}
theorem sr{β:BP}{hd:HF}(hhd:hd=hd0 P n0 N)(hfit:ep P tab)(ets:ET)(lts:LT){c:Code}{Q:Exit->List (Nat×AV)->EH->Prop}{l:List (Nat×AV)}{h:EH}(r:Nat)(es:LLA)(hi:∀e∈es,e.all jP=true)(hrn:Nat.ble (jH h) r=true)(hok:dF ets lts N c=true)
  (hp:∀(g:Gd)(eff:EF)(hd:HF)(B:List (Nat×AV)->EH->Prop),eff=zA P->hd=hd0 P (toH h).length N->g=G0 P (toH h).length N->
   (∀(t k:Nat) l' h',nth h' r=some (.rw ⟨t,k,es⟩)->n6 h h'=true->(∀lo b,BP.lo<=lo->Ej lo h (hd1 b es)->∃l2 h2,nmK r (.fv (hd1 b es++fpE es) (es.map (·.map vwC))) (lkT l') l2/\nmH r (.fv (hd1 b es++fpE es) (es.map (·.map vwC))) 0 h2 h'/\Q .normal l2 h2)->B l' h')->
   jh ets lts eff hd g tab c (fun e l' h'=>match e with| .normal=>B l' h'|_=>False) l h):hd c Q l h:=by
 subst hhd
 intro F w0 m0 h0 a w m hn r0
 have hH:=r0.st.hp
 have r1:Rel F w m (toH h) N (lkT l) (toH h) a w m:=⟨r0.tm,(de.refl hH).x,r0.df,r0.sz⟩
 have hv:=bX hfit c _ l h hok (hp _ _ _ (fun l' h'=>∃t k,nth h' r=some (.rw ⟨t,k,es⟩)/\n6 h h'=true/\(∀lo b,BP.lo<=lo->Ej lo h (hd1 b es)->∃l2 h2,nmK r (.fv (hd1 b es++fpE es) (es.map (·.map vwC))) (lkT l') l2/\nmH r (.fv (hd1 b es++fpE es) (es.map (·.map vwC))) 0 h2 h'/\Q .normal l2 h2)) rfl rfl rfl (fun t k l' h' h1 h2 h3=>⟨t,k,h1,h2,h3⟩))
 refine Code.wp_mono (fun e a' w'⟨T',h',m',F1,hw,hG,r'⟩=> ?_) (hv F w m (toH h) a w m rfl r1)
 obtain⟨l',eh,e1,e2,hw⟩:=hw
 cases e<;>first|exact hw.elim|skip
 obtain⟨t,k,q1,q2,q3⟩:=hw
 subst e1 e2
 obtain⟨b,F2,hb,ha,r2⟩:=r'.nm q1 hi
 have hf:BP.lo<=w.heap.size:=RH.lo hH
 obtain⟨l2,h2,n1,n2,hq⟩:=q3 w.heap.size b hf ⟨by cases es<;>simp [hd1],fun x hx=>by
  cases hes:es with
  |nil=>rw [hes]at hx;simp [hd1]at hx
  |cons e0 es0=>
   rw [hes]at hx
   simp only [hd1,List.mem_singleton]at hx
   subst hx
   obtain⟨c,h3,_⟩:=hb (by rw [hes];simp)
   rcases r'.st.own r _ x c (dJ q1) h3 with⟨r3,ab3,c3,g1,g2⟩|h4
   ·exfalso
    obtain⟨hg,g3⟩:=tq q2 r3 ab3 g1
    rcases(r'.st.keeps r3).2 ab3 g1 with g4|⟨ab5,g4,_,_,g5⟩
    ·rw [g3]at g4;cases g4
    ·rw [g2]at g5
     have:=r'.st.hp.inj r3 r _ _ x c3 c g4 (dJ q1) g5 h3
     have hc:=(List.getElem?_eq_some_iff.1 g1).1
     rw [aQ]at hc
     have:=bl hrn
     rw [bR]at this
     omega
   ·exact h4,fun x hx=>wR (fun i e he=>⟨i,by show(toH h)[i]? =_;rw [toH,zqi,he];rfl⟩) hH x hx⟩
 have r3:=r2 l2 h2 n1 n2
 refine⟨_,_,m',F2,⟨_,_,rfl,rfl,hq⟩,dx.trans (dx.refl _ _ _ _) r0.st (hG.comp ha),⟨r3.tm,gy.trans2 r0.st r3.st,r3.df,r3.sz⟩⟩
end
theorem je.trans{β:BP}{n0 N:Nat}{T:Nat->AV}{h h1 h2:AH}{l1 l2:List (Nat×AV)}(w1:je n0 N T h l1 h1)(w2:je n0 N (lkT l1) h1 l2 h2):je n0 N T h l2 h2:=fun F w0 m0 h0 a w m hn r=>by
 obtain⟨F1,m1,g1,r1⟩:=w1 F w0 m0 h0 a w m hn r
 obtain⟨F2,m2,g2,r2⟩:=w2 F1 w0 m0 h0 a w m1 hn r1
 exact⟨F2,m2,g1.comp g2,r2⟩
theorem zP{β:BP}{n0 N:Nat}{l l2:List (Nat×AV)}{h h2:EH}(hK:nmK h.length .dead (lkT l) l2)(hN:nmH h.length .dead 0 h2 h):je n0 N (lkT l) (toH h) l2 (toH h2):=fun F w0 m0 h0 a w m hn rl=>by
 refine⟨F,m,dx.refl _ _ _ _,?_⟩
 have hH:=rl.st.hp
 have hk:=rb (m:=m) hN
 have hd:(toH h)[h.length]? =none:=by rw [zqz];rw [aQ];exact Nat.le_refl _
 have cell:∀(c c':AC)(u:Value),RC F w m (toH h) c u->nmC h.length .dead c' c->RC F w m (toH h2) c' u:=fun c c' u hu hc=>by
  rcases hc with rfl|⟨rfl,rfl⟩|⟨rfl,rfl⟩
  ·exact RC.ext (fun _ h=>h) (fun _ _=>rfl) hk hu
  ·exact trivial
  ·have hh:u= .slice none 0 0:=hu
   subst hh
   show SP F w [] (.view []) (.slice none 0 0)
   unfold SP
   exact⟨none,0,rfl,Nat.le_refl _,Nat.zero_le _,.inl ⟨rfl,rfl⟩⟩
 have ha:(toH h2).length=(toH h).length:=by rw [aQ,aQ];exact pY hN
 have he:RH F w m (toH h2):=by
  refine⟨fun q hb hq=> ?_,fun q q' ab hb b1 c c' hq hg hm hf=> ?_,by rw [ha];exact hH.len,hH.old,hH.lo⟩
  ·obtain⟨hl,ab,h1,h2,h3,h4,h5⟩:=fV hN hq
   rcases hH.at_ q ab h1 with⟨g1,g2⟩|⟨b1,cap,g1,g2,cur,g3,g4,g5,g6,g7⟩
   ·exact .inl ⟨g1,by rw [h4];exact g2⟩
   ·refine .inr ⟨b1,cap,g1,g2,cur,by rw [h2];exact g3,by rw [h3];exact g4,by rw [h4];exact g5,g6,fun i x' hx=> ?_⟩
    obtain⟨x,k1,k2,k3⟩:=h5 i x' hx
    obtain⟨k4,k5⟩:=g7 i x k1
    rw [h3]
    refine⟨by rw [k2];exact k4,fun j c' hc=> ?_⟩
    obtain⟨c,k6,k7⟩:=k3 j c' hc
    obtain⟨u,k8,k9,hi⟩:=k5 j c k6
    exact⟨u,k8,k9,cell c c' u hi k7⟩
  ·obtain⟨_,a1,g1,_⟩:=fV hN hq
   obtain⟨_,a2,g2,_⟩:=fV hN hg
   exact hH.inj q q' a1 a2 b1 c c' g1 g2 hm hf
 have hL:∀(xs ys:List AC)(u:Value),RT F w m (toH h) (.agg xs) u->nmL h.length .dead ys xs->RT F w m (toH h2) (.agg ys) u:=fun xs ys u hx hn=>by
  obtain⟨vs,h1,h2,h3⟩:=hx
  refine⟨vs,h1,by rw [h2,(kg hn).1],fun j y hj=> ?_⟩
  obtain⟨c,k1,k2⟩:=(kg hn).2 j y hj
  obtain⟨u,hu,ho,hr⟩:=h3 j c k1
  exact⟨u,hu,ho,cell c y u hr k2⟩
 have hV:∀(x y:AV)(u:Value),RV F w m (toH h) x u->nmV h.length .dead y x->RV F w m (toH h2) y u:=fun x y u hx hn=>by
  unfold nmV at hn
  split at hn
  ·exact trivial
  ·exact cell _ _ u hx hn
  ·exact hL _ _ u hx hn
  ·subst hn;exact RV.ext (fun _ h=>h) (fun _ _=>rfl) hk hx
 obtain⟨tm,st,df,sz⟩:=rl
 refine⟨fun q=> ?_,⟨he,dL.trans st.keeps hk,st.os,st.tape,st.output,st.size,st.blk,fun q hb b1 c hq hm=> ?_,st.szx⟩,df,sz⟩
 ·rcases se hK q with h1|h1
  ·rw [h1];exact trivial
  ·exact hV _ _ _ (tm q) h1
 ·obtain⟨_,ab,g1,_⟩:=fV hN hq
  exact st.own q ab b1 c g1 hm
end Go.Proofs.YtckchgoblpgpbaaGreat.Am
