/- A part of AM, a framework of the prover own: functions of any program as maps of data. -/
import Derived.Test.YtckchgoblpgpbaaGreatJ6ah
set_option linter.unusedVariables false
set_option linter.unusedSimpArgs false
namespace Go.Proofs.YtckchgoblpgpbaaGreat.Am
open Go.RowKit
def fpC:AC->List Nat
 | .fv bs _=>bs
 |_=>[]
def fpL(x:List AC):List Nat:=x.flatMap fpC
def fpE(es:LLA):List Nat:=es.flatMap fpL
def vwC:AC->AC
 | .fv _ xs=> .view xs
 | .old _ xs=> .view xs
 |c=>c
def fpH:EH->List Nat
 | []=>[]
 | .bx _ _ x::h=>fpL x++fpH h
 | .rw ab::h=>fpE ab.es++fpH h
 | .gn::h=>fpH h
section
variable {F:Nat->Prop}{w:World}
mutual
theorem SP.mem:∀{bs:List Nat}{c:AC}{v:Value},SP F w bs c v->∀b∈bs,F b
 |bs,.imm u,v,h=>by unfold SP at h;rw [h.2];simp
 |bs,.view xs,v,h=>by
  unfold SP at h
  obtain⟨p,cap,hv,h1,h2,h3⟩:=h
  rcases h3 with⟨_,rfl⟩|⟨b,k,bs',cur,ty,rfl,hp,hb,hc,hs,he⟩
  ·simp
  ·intro b' ha
   rcases List.mem_cons.1 ha with rfl|ha
   ·exact hb
   ·exact SPE.mem he b' ha
 |bs,.dead,v,h=>by unfold SP at h;exact h.elim
 |bs,.own r,v,h=>by unfold SP at h;exact h.elim
 |bs,.sub r l n,v,h=>by unfold SP at h;exact h.elim
 |bs,.ptr r i o,v,h=>by unfold SP at h;exact h.elim
 |bs,.eptr cs o,v,h=>by unfold SP at h;exact h.elim
 |bs,.clo g rs,v,h=>by unfold SP at h;exact h.elim
 |bs,.fv b xs,v,h=>by unfold SP at h;exact h.elim
 |bs,.old b xs,v,h=>by unfold SP at h;exact h.elim
theorem SPE.mem:∀{bs:List Nat}{b k o:Nat}{xs:LLA},SPE F w bs b k o xs->∀b∈bs,F b
 |bs,b,k,o,[],h=>by unfold SPE at h;subst h;simp
 |bs,b,k,o,x::xs,h=>by
  unfold SPE at h
  obtain⟨b1,b2,rfl,h1,h2,h3⟩:=h
  intro b' ha
  rcases List.mem_append.1 ha with ha|ha
  ·exact SPL.mem h2 b' ha
  ·exact SPE.mem h3 b' ha
theorem SPL.mem:∀{bs:List Nat}{b o:Nat}{cs:List AC},SPL F w bs b o cs->∀b∈bs,F b
 |bs,b,o,[],h=>by unfold SPL at h;subst h;simp
 |bs,b,o,c::cs,h=>by
  unfold SPL at h
  obtain⟨b1,b2,rfl,⟨u,hu,h1,hc⟩,h2⟩:=h
  intro b' ha
  rcases List.mem_append.1 ha with ha|ha
  ·exact SP.mem hc b' ha
  ·exact SPL.mem h2 b' ha
end
theorem SPL.mk{b:Nat}:∀{cs:List AC}{o:Nat},(∀(j:Nat)(c:AC),cs[j]? =some c->∃u,w.cell? ⟨b,o+j,none⟩=some u/\one u=true/\SP F w (fpC c) (vwC c) u)->SPL F w (fpL cs) b o (cs.map vwC)
 | [],o,h=>by unfold SPL;rfl
 |c::cs,o,h=>by
  show SPL F w (fpL (c::cs)) b o (vwC c::cs.map vwC)
  unfold SPL
  refine⟨fpC c,fpL cs,by simp [fpL],by simpa using h 0 c rfl,SPL.mk (fun j d hj=> ?_)⟩
  have:=h (j+1) d (by simpa using hj)
  rwa [show o+(j+1)=o+1+j by omega]at this
theorem SPE.mk{b k:Nat}:∀{xs:LLA}{o:Nat},(∀(i:Nat)(x:List AC),xs[i]? =some x->x.length=k/\SPL F w (fpL x) b (o+i*k) (x.map vwC))->SPE F w (fpE xs) b k o (xs.map (·.map vwC))
 | [],o,h=>by unfold SPE;rfl
 |x::xs,o,h=>by
  show SPE F w (fpE (x::xs)) b k o (x.map vwC::xs.map (·.map vwC))
  unfold SPE
  obtain⟨h1,h2⟩:=h 0 x rfl
  refine⟨fpL x,fpE xs,by simp [fpE],by simpa using h1,by simpa using h2,SPE.mk (fun i y hi=> ?_)⟩
  have:=h (i+1) y (by simpa using hi)
  rwa [show o+(i+1)*k=o+k+i*k by rw [Nat.add_mul];omega]at this
end
def hd1(b:Nat):LLA->List Nat
 | []=>[]
 |_::_=>[b]
inductive o9(β:Nat->Nat)(h:AH):AC->AC->Prop
 |imm (u:Value):o9 β h (.imm u) (.imm u)
 |fv (bs:List Nat) (xs:LLA):o9 β h (.fv bs xs) (.fv bs xs)
 |row (r:Nat) (ab:AB) (es:LLA) (hr:h[r]? =some (.live ab)) (hl:es.length=ab.es.length)
   (hk:∀(i:Nat)(x y:List AC),ab.es[i]? =some x->es[i]? =some y->x.length=y.length)
   (he:∀(i:Nat)(x y:List AC),ab.es[i]? =some x->es[i]? =some y->∀(j:Nat)(c d:AC),x[j]? =some c->y[j]? =some d->o9 β h c d):o9 β h (.own r) (.fv (hd1 (β r) es++fpE es) (es.map (·.map vwC)))
section
variable {F:Nat->Prop}{w:World}{m:AM}{h:AH}
variable {β:Nat->Nat}
theorem o9.sound{bp:BP}(hH:RH F w m h)(hβ:∀(r:Nat)(ab:AB)(b c:Nat),h[r]? =some (.live ab)->m[r]? =some (some (b,c))->β r=b){c d:AC}(hr:o9 β h c d):∀{v:Value},RC F w m h c v->SP (oy F m h) w (fpC d) (vwC d) v:=by
 induction hr with
 |imm u=>intro v hv;show SP _ w [] (.imm u) v;unfold SP;exact⟨hv,rfl⟩
 |fv bs xs=>intro v hv;exact SP.ext (fun _ _ hb=> .inl hb) (fun _ _ _=>rfl) hv
 |row r ab es hr hl hk he ih=>
  intro v hv
  show SP _ w (hd1 (β r) es++fpE es) (.view (es.map (·.map vwC))) v
  unfold SP
  rcases hv with hg|⟨ab',h1,⟨b,cap,h2,rfl⟩|⟨h2,h3,rfl⟩⟩
  ·rw [hr]at hg;cases hg
  ·obtain⟨rfl,hF,hB⟩:=hH.get hr h1 h2
   have ha:=hB
   obtain⟨cur,g1,g2,g3,g4,g5⟩:=ha
   refine⟨some ⟨b,0,none⟩,cap,by simp [hl],by simp;omega,g4,?_⟩
   cases es with
   |nil=>exact .inl ⟨rfl,rfl⟩
   |cons e0 es0=>
    right
    have hb:=hβ r ab' b cap hr h2
    refine⟨b,ab'.k,fpE (e0::es0),cur,ab'.ty,by rw [<-hb];rfl,rfl,.inr ⟨r,ab',cap,hr,h2⟩,g1,g2,SPE.mk (fun i y hy=> ?_)⟩
    have hd:i<ab'.es.length:=by rw [<-hl];exact(List.getElem?_eq_some_iff.1 hy).1
    have hx:=zqc hd
    have e1:=hk i _ y hx hy
    refine⟨by rw [<-e1];exact(g5 i _ hx).1,SPL.mk (fun j d hj=> ?_)⟩
    have hf:j<(ab'.es[i]).length:=by rw [e1];exact(List.getElem?_eq_some_iff.1 hj).1
    have hc:=zqc hf
    obtain⟨u,hu,ho,hh⟩:=hB.cell hx j _ hc
    exact⟨u,by simpa using hu,ho,ih i _ y hx hy j _ d hc hj hh⟩
  ·rw [hr]at h1
   cases h1
   have:es=[]:=zqv (by omega)
   subst this
   exact⟨none,0,rfl,by simp,by simp,.inl ⟨rfl,rfl⟩⟩
theorem o9.rc{bp:BP}(hH:RH F w m h)(hβ:∀(r:Nat)(ab:AB)(b c:Nat),h[r]? =some (.live ab)->m[r]? =some (some (b,c))->β r=b){c d:AC}(hr:o9 β h c d){v:Value}(hv:RC F w m h c v):RC (oy F m h) w [] [] d v:=by
 have:=hr.sound hH hβ hv
 cases hr with
 |imm u=>exact hv
 |fv bs xs=>exact this
 |row=>exact this
end
inductive u9(β:Nat->Nat)(h:AH):List AC->List AC->Prop
 |nil:u9 β h [] []
 |cons {c d:AC} {xs ys:List AC}:o9 β h c d->u9 β h xs ys->u9 β h (c::xs) (d::ys)
inductive jQ(β:Nat->Nat)(h:AH):List AT->List AT->Prop
 |nil:jQ β h [] []
 |c {c d:AC} {xs ys:List AT}:o9 β h c d->jQ β h xs ys->jQ β h (.c c::xs) (.c d::ys)
 |agg {a b:List AC} {xs ys:List AT}:u9 β h a b->jQ β h xs ys->jQ β h (.agg a::xs) (.agg b::ys)
section
variable {F:Nat->Prop}{w:World}{m:AM}{h:AH}{β:Nat->Nat}
theorem u9.at_{a b:List AC}(hr:u9 β h a b):a.length=b.length/\∀(i:Nat)(c d:AC),a[i]? =some c->b[i]? =some d->o9 β h c d:=by
 induction hr with
 |nil=>exact⟨rfl,fun i c d h=>by simp at h⟩
 |cons h1 _ ih=>
  refine⟨by simp [ih.1],fun i c d hc hd=> ?_⟩
  cases i with
  |zero=>simp at hc hd;subst hc hd;exact h1
  |succ i=>exact ih.2 i c d (by simpa using hc) (by simpa using hd)
theorem jQ.at_{a b:List AT}(hr:jQ β h a b):b.length=a.length/\∀(j:Nat)(x y:AT),a[j]? =some x->b[j]? =some y->(∃c d,x= .c c/\y= .c d/\o9 β h c d)\/∃xs ys,x= .agg xs/\y= .agg ys/\xs.length=ys.length/\∀(i:Nat)(c d:AC),xs[i]? =some c->ys[i]? =some d->o9 β h c d:=by
 induction hr with
 |nil=>exact⟨rfl,fun i c d h=>by simp at h⟩
 |c h1 _ ih=>
  refine⟨by simp [ih.1],fun i x y hx hy=> ?_⟩
  cases i with
  |zero=>simp at hx hy;subst hx hy;exact .inl ⟨_,_,rfl,rfl,h1⟩
  |succ i=>exact ih.2 i x y (by simpa using hx) (by simpa using hy)
 |agg h1 _ ih=>
  refine⟨by simp [ih.1],fun i x y hx hy=> ?_⟩
  cases i with
  |zero=>simp at hx hy;subst hx hy;exact .inr ⟨_,_,rfl,rfl,h1.at_.1,h1.at_.2⟩
  |succ i=>exact ih.2 i x y (by simpa using hx) (by simpa using hy)
theorem jQ.rt{bp:BP}(hH:RH F w m h)(hβ:∀(r:Nat)(ab:AB)(b c:Nat),h[r]? =some (.live ab)->m[r]? =some (some (b,c))->β r=b){x y:AT}(hr:(∃c d,x= .c c/\y= .c d/\o9 β h c d)\/∃xs ys,x= .agg xs/\y= .agg ys/\xs.length=ys.length/\∀(i:Nat)(c d:AC),xs[i]? =some c->ys[i]? =some d->o9 β h c d){v:Value}(hv:RT F w m h x v):RT (oy F m h) w [] [] y v:=by
 rcases hr with⟨c,d,rfl,rfl,h1⟩|⟨xs,ys,rfl,rfl,h1,h2⟩
 ·exact h1.rc hH hβ hv
 ·obtain⟨vs,g1,g2,g3⟩:=hv
  refine⟨vs,g1,by rw [g2,h1],fun i d hi=> ?_⟩
  have hb:i<xs.length:=by rw [h1];exact(List.getElem?_eq_some_iff.1 hi).1
  have ha:=zqc hb
  obtain⟨u,hu,hc,hd⟩:=g3 i _ ha
  exact⟨u,hu,hc,(h2 i _ d ha hi).rc hH hβ hd⟩
theorem jQ.rv{bp:BP}(hH:RH F w m h)(hβ:∀(r:Nat)(ab:AB)(b c:Nat),h[r]? =some (.live ab)->m[r]? =some (some (b,c))->β r=b){xs ys:List AT}(hr:jQ β h xs ys){v:Value}(hv:RV F w m h (mkV xs) v):RV (oy F m h) w [] [] (mkV ys) v:=by
 obtain⟨hl,ha⟩:=hr.at_
 have many:(∀x,xs≠[x])->RV F w m h (.tup xs) v->RV (oy F m h) w [] [] (.tup ys) v:=fun _ hv=>by
  obtain⟨vs,g1,g2,g3⟩:=hv
  refine⟨vs,g1,by rw [g2,hl],fun j y hj=> ?_⟩
  have hc:j<xs.length:=by rw [<-hl];exact(List.getElem?_eq_some_iff.1 hj).1
  have hb:=zqc hc
  obtain⟨u,hu,hd⟩:=g3 j _ hb
  exact⟨u,hu,jQ.rt hH hβ (ha j _ y hb hj) hd⟩
 match xs,ys,hl,hr,ha with
 | [],[],_,_,_=>exact many (fun x hx=>by cases hx) hv
 | [x],[y],_,_,ha=>exact jQ.rt hH hβ (ha 0 x y rfl rfl) hv
 |x::x'::xs,y::y'::ys,_,_,_=>exact many (fun x hx=>by cases hx) hv
end
def Bs(P:Program)(f:FuncId)(args:List AT)(Post:Nat->AV->List AB->Prop):Prop:=∀lo:Nat, @Con ⟨lo,fun _=>False⟩ P f [] args fun res h'=>∃rows,h'=rows.map .live/\Post lo res rows
def yO(lo:Nat)(β:Nat->Nat)(h:AH)(xs:List AT):Prop:=∀(r:Nat)(ab:AB),h[r]? =some (.live ab)->ab.es≠[]->lo<=β r/\(∀(r':Nat)(ab':AB),h[r']? =some (.live ab')->ab'.es≠[]->β r=β r'->r=r')/\
 (∀(r':Nat)(ab':AB),h[r']? =some (.live ab')->∀x∈ab'.es,∀c∈x,β r∉fpC c)/\∀x∈xs,∀c∈x.cells,β r∉fpC c
def BU [BP](Post:AV->List AB->Prop)(xs:List AT)(h:AH):Prop:=
 (∃res' h' ρ,Wk 0 (fun _=>mkV xs) h [(0,res')] h' ρ/\∃rows,h'=rows.map .live/\Post res' rows)\/∀β:Nat->Nat,yO BP.lo β h xs->∃ys,jQ β h xs ys/\Post (mkV ys) []
def Ek [BP](P:Program)(rs:List ResultVar)(Post:AV->List AB->Prop):Exit->(Nat->AV)->AH->Prop
 | .normal,T,h=>rsL P T h rs fun xs=>BU Post xs h
 | .ret,T,h=>rsL P T h rs fun xs=>BU Post xs h
 |_,_,_=>False
variable {Post:AV->List AB->Prop}
theorem uV{β:BP}(hex:∀b,¬BP.ex b){P:Program}{f:FuncId}{fn:Func}{c:Code}{args:List AT}(hf:P.funcs[f]? =some fn)(hb:fn.body=some c)(hnm:(fn.name== "runtime.NumGoroutine")=false)(hn:args.length<=fn.ntmps)
  (hv:VC P 0 fn.ntmps c (Ek P fn.results.toList Post) (T0 args) []):Con P f [] args fun res h'=>∃rows,h'=rows.map .live/\Post res rows:=by
 refine⟨by unfold lF;rw [hf];simp [hnm,hb],fun F w m vs hH hl ha=> ?_⟩
 refine calls_of_wp hf hb ?_
 have hJ:vs.toArray.size=args.length:=by simpa using hl
 have ho:Rel F w m [] fn.ntmps (T0 args) [] {tmps:=vs.toArray++Array.replicate (fn.ntmps-vs.toArray.size) undef,defers:=[]} w m:=by
  refine⟨fun d=> ?_,(de.refl hH).x,rfl,by simp [hl];omega⟩
  unfold T0
  cases hd:args[d]? with
  |some x=>
   obtain⟨v,hv,hr⟩:=ha d x hd
   have hD:d<vs.length:=(List.getElem?_eq_some_iff.1 hv).1
   have:(vs.toArray++Array.replicate (fn.ntmps-vs.toArray.size) undef).getD d undef=v:=by
    rw [Array.getD_eq_getD_getElem?,Array.getElem?_append_left (by simpa using hD)]
    simp [hv]
   rw [this]
   exact hr
  |none=>
   have hE:vs.length<=d:=by rw [hl];exact List.getElem?_eq_none_iff.1 hd
   have:(vs.toArray++Array.replicate (fn.ntmps-vs.toArray.size) undef).getD d undef=undef:=by
    rw [Array.getD_eq_getD_getElem?,Array.getElem?_append_right (by simpa using hE),Array.getElem?_replicate]
    split<;>rfl
   rw [this]
   rfl
 refine Code.wp_mono (fun e a' w'⟨T',h',m',F1,hq,hG,r⟩=> ?_) (hv F w m [] _ w m rfl ho)
 have hC:rsL P T' h' fn.results.toList (fun xs=>BU Post xs h')->a'.defers=[]/\∃v,(results fn a'.tmps).run P w'= .ok v w'/\∃v_1 res h' m' F',Ending.returned v= .returned v_1/\(∃rows,h'=rows.map .live/\Post res rows)/\dx F F' w m []/\de F' w m [] w' m' h'/\RV F' w' m' h' res v_1:=by
  intro hq
  obtain⟨xs,v,he,hr,hg⟩:=jY r.tm r.st.hp hq
  rcases he with⟨res',h'',ρ,hw,hp⟩|he
  ·obtain⟨h1,h2,h3,h4,h5⟩:=hw
   refine⟨r.df,v,hr,v,res',h'',_,F1,rfl,hp,hG,(r.st.rn rfl h1 h2 h3 h4).full hex,RV.rn r.st.hp h4 hg ?_⟩
   unfold rnK at h5
   exact h5.1
  ·obtain⟨bl,hz⟩:∃bl:Nat->Nat,∀(r:Nat)(ab:AB)(b c:Nat),h'[r]? =some (.live ab)->m'[r]? =some (some (b,c))->bl r=b:=
    ⟨fun r=>match m'[r]? with|some (some (b,_))=>b|_=>0,fun r0 ab b c _ h2=>by simp only [h2]⟩
   have hy:∀(r0:Nat)(ab:AB),h'[r0]? =some (.live ab)->ab.es≠[]->∃c,m'[r0]? =some (some (bl r0,c)):=fun r0 ab h1 h2=>by
    rcases r.st.hp.at_ r0 ab h1 with⟨_,h3⟩|⟨b,c,h3,_⟩
    ·exact(h2 (zqv h3)).elim
    ·exact⟨c,by rw [hz r0 ab b c h1 h3];exact h3⟩
   have ht:∀(c:AC)(u:Value),RC F1 w' m' h' c u->∀b∈fpC c,F1 b:=fun c u hc b hb=>by
    cases c<;>first|exact SP.mem hc b hb|simp [fpC]at hb
   obtain⟨ys,hs,hp⟩:=he bl (fun r0 ab h1 h2=>by
    obtain⟨c,h3⟩:=hy r0 ab h1 h2
    obtain⟨hA,_⟩:=r.st.hp.lt h1 h3
    refine⟨?_,fun r' hh h4 h5 h6=> ?_,fun r' hh h4 x hx c' hk hb=> ?_,fun x hx c' hk hb=> ?_⟩
    ·rcases r.st.own r0 ab _ c h1 h3 with⟨r1,ab1,c1,g3,_⟩|g3
     ·simp at g3
     ·exact Nat.le_trans hH.lo g3
    ·obtain⟨c2,h7⟩:=hy r' hh h4 h5
     rw [h6]at h3
     exact r.st.hp.inj r0 r' ab hh _ c c2 h1 h4 h3 h7
    ·obtain⟨i,hi,rfl⟩:=List.getElem_of_mem hx
     obtain⟨j,hj,rfl⟩:=List.getElem_of_mem hk
     rcases r.st.hp.at_ r' hh h4 with⟨_,h3'⟩|⟨b2,c2,_,_,hB⟩
     ·omega
     ·obtain⟨u,_,_,hu⟩:=hB.cell (zqc hi) j _ (zqc hj)
      exact hA (ht _ u hu _ hb)
    ·have cell:∀(x:AT)(u:Value),RT F1 w' m' h' x u->∀c∈x.cells,∃u',RC F1 w' m' h' c u':=fun x u hx c hc=>by
      cases x with
      |c y=>simp only [AT.cells,List.mem_singleton]at hc;subst hc;exact⟨u,hx⟩
      |agg zs=>
       obtain⟨vs,g1,g2,g3⟩:=hx
       obtain⟨j,hj,rfl⟩:=List.getElem_of_mem hc
       obtain⟨u',_,_,hu⟩:=g3 j _ (zqc hj)
       exact⟨u',hu⟩
     have hI:∃u,RT F1 w' m' h' x u:=by
      match xs,hg,hx with
      | [y],hg,hx=>simp only [List.mem_singleton]at hx;subst hx;exact⟨v,hg⟩
      |y::y'::zs,hg,hx=>
       obtain⟨vs,g1,g2,g3⟩:=hg
       obtain⟨j,hj,rfl⟩:=List.getElem_of_mem hx
       obtain⟨u',_,hu⟩:=g3 j _ (zqc hj)
       exact⟨u',hu⟩
     obtain⟨u,hu⟩:=hI
     obtain⟨u',hF⟩:=cell x u hu c' hk
     exact hA (ht _ u' hF _ hb))
   have hm:∀b,oy F1 m' h' b->b<w'.heap.size:=fun b hb=>by
    rcases hb with hb|⟨r0,ab,c,g1,g2⟩
    ·exact r.st.hp.old b hb
    ·exact(r.st.hp.lt g1 g2).2
   refine⟨r.df,v,hr,v,mkV ys,[],[],oy F1 m' h',rfl,⟨[],rfl,hp⟩,⟨fun b hb=> .inl (hG.1 b hb),fun b hb=> ?_⟩,⟨RH.empty hm r.st.hp.lo,fun r0=>⟨fun hx=>by simp at hx,fun ab hx=>by simp at hx⟩,r.st.os,r.st.tape,r.st.output,r.st.size,(r.st.full hex).blk,fun r0 ab b c hx=>by simp at hx⟩,jQ.rv r.st.hp hz hs hg⟩
   rcases hb with hb|⟨r0,ab,c,g1,g2⟩
   ·exact hG.2 b hb
   ·rcases r.st.own r0 ab b c g1 g2 with⟨r1,ab1,c1,g3,_⟩|g3
    ·simp at g3
    ·exact .inr (.inl g3)
 cases e with
 |normal=>exact hC hq
 |ret=>exact hC hq
 |exit id=>exact hq.elim
 |goto l=>exact hq.elim
 |panic c=>exact hq.elim
 |outgrown=>exact hq.elim
section
variable {P:Program}{tab:List (TypeId × TI)}
theorem pm(ets:ET)(lts:LT){f:FuncId}{fn:Func}{c:Code}{args:List AT}{Post:Nat->AV->List AB->Prop}(hfit:ep P tab)(hf:P.funcs[f]? =some fn)(hb:fn.body=some c)(hnm:(fn.name== "runtime.NumGoroutine")=false)(hn:Nat.ble args.length fn.ntmps=true)
  (hok:dF ets lts fn.ntmps c=true) (hv:∀(β:BP)(g:Gd)(eff:EF)(hd:HF)(F:List AT->EH->Prop),eff=zA P->hd=hd0 P 0 fn.ntmps->g=G0 P 0 fn.ntmps->F=(fun xs eh=>BU (Post β.lo) xs (toH eh))->jh ets lts eff hd g tab c (zx tab fn.results.toList F) (rL args 0) []):Bs P f args Post:=fun lo=>by
 refine uV (β:=⟨lo,fun _=>False⟩) (fun _ h=>h) hf hb hnm (bl hn) (jV (T':=lkT (rL args 0)) (fun d=> ?_) (eB (fun e T h hq=> ?_) (bX hfit c _ _ [] hok (hv ⟨lo,fun _=>False⟩ _ _ _ _ rfl rfl rfl rfl))))
 ·rcases mW args 0 d with h1|⟨x,h1,h2,h3⟩
  ·exact .inl h1
  ·refine .inr ?_
   rw [h3]
   simp only [Nat.sub_zero]at h1
   simp only [T0,h1]
 ·obtain⟨l,eh,rfl,rfl,hq⟩:=hq
  cases e<;>first
   |exact hq.elim
   |exact fK hfit _ _ hq
end
theorem RC.fp{F:Nat->Prop}{w:World}{m:AM}{h:AH}{c:AC}{v:Value}(hc:RC F w m h c v):∀b∈fpC c,F b:=fun b hb=>by
 cases c<;>first|exact SP.mem hc b hb|simp [fpC]at hb
theorem wR{bp:BP}{F:Nat->Prop}{w:World}{m:AM}:∀{h:EH}{H:AH},(∀(i:Nat)(e:EE),h[i]? =some e->∃r:Nat,H[r]? =some e.e)->RH F w m H->∀b∈fpH h,b<w.heap.size
 | [],H,hs,hH,b,hb=>by simp [fpH]at hb
 |e::h,H,hs,hH,b,hb=>by
  have rest:b∈fpH h->b<w.heap.size:=wR (fun i e' hi=>hs (i+1) e' (by simpa using hi)) hH b
  obtain⟨r,hr⟩:=hs 0 e rfl
  have cell:∀(ab:AB)(i j:Nat)(x:List AC)(c:AC),e.e= .live ab->ab.es[i]? =some x->x[j]? =some c->b∈fpC c->b<w.heap.size:=fun ab i j x c he hx hc hb=>by
   rw [he]at hr
   rcases hH.at_ r ab hr with⟨_,h3⟩|⟨b2,c2,_,_,hB⟩
   ·have:=(List.getElem?_eq_some_iff.1 hx).1;omega
   ·obtain⟨u,_,_,hu⟩:=hB.cell hx j c hc
    exact hH.old b (hu.fp b hb)
  cases e with
  |gn=>exact rest hb
  |bx t k x=>
   rcases List.mem_append.1 hb with hb|hb
   ·obtain⟨c,hc,hb⟩:=List.mem_flatMap.1 hb
    obtain⟨j,hj,rfl⟩:=List.getElem_of_mem hc
    exact cell ⟨t,k,[x]⟩ 0 j x _ rfl rfl (zqc hj) hb
   ·exact rest hb
  |rw ab=>
   rcases List.mem_append.1 hb with hb|hb
   ·obtain⟨x,hx,hb⟩:=List.mem_flatMap.1 hb
    obtain⟨i,hi,rfl⟩:=List.getElem_of_mem hx
    obtain⟨c,hc,hb⟩:=List.mem_flatMap.1 hb
    obtain⟨j,hj,rfl⟩:=List.getElem_of_mem hc
    exact cell ab i j _ _ rfl (zqc hi) (zqc hj) hb
   ·exact rest hb
def fpA(args:List AT):List Nat:=args.flatMap fun x=>fpL x.cells
section
variable {P:Program}{n0 N:Nat}{g:Gd}
theorem DR{β:BP}(hg:g=G0 P n0 N){h:EH}{f:FuncId}{args args':List AT}{K:AV->EH->Prop}{Post:Nat->AV->List AB->Prop}(hc:Bs P f args' Post)(ha:dwA args args')
  (hK:∀lo res rows,BP.lo<=lo->(∀b∈fpH h,b<lo)->(∀b∈fpA args,b<lo)->Post lo res rows->∃es:EH,toH es=(rows.map (AB.shift (toH h).length)).map .live/\K (res.shift (toH h).length) (h++es)):g .C f h args K:=by
 subst hg
 obtain⟨e1,e2⟩:=ha.at_
 refine⟨(hc 0).1,fun F w m vs hH hl hx=> ?_⟩
 have:=(hc w.heap.size).2 F w [] vs (RH.empty hH.old (Nat.le_refl _)) (by rw [hl,e1]) (fun j y hj=>by
  have hf:j<args.length:=by rw [e1];exact(List.getElem?_eq_some_iff.1 hj).1
  obtain⟨v,hv,hr⟩:=hx j _ (zqc hf)
  exact⟨v,hv,(e2 j _ y (zqc hf) hj).rt hr⟩)
 refine this.mono fun e w''⟨v,res,h',m',F1,he,⟨rows,hh,hpost⟩,hG,hs,hv⟩=> ?_
 subst hh
 obtain⟨m'',F2,hk,h1,h2⟩:=de.of_outG hH (ip (n:=(toH h).length) hG hs hv)
 obtain⟨es,h3,h4⟩:=hK _ res rows hH.lo (wR (fun i e hi=>⟨i,by simp [toH,hi]⟩) hH) (fun b hb=>by
  obtain⟨x,hm,hb⟩:=List.mem_flatMap.1 hb
  obtain⟨j,hj,rfl⟩:=List.getElem_of_mem hm
  obtain⟨v,hv,hr⟩:=hx j _ (zqc hj)
  obtain⟨c,hd,hb⟩:=List.mem_flatMap.1 hb
  have:∃u,RC F w m (toH h) c u:=by
   cases hxx:args[j]with
   |c d=>
    rw [hxx]at hd hr
    simp only [AT.cells,List.mem_singleton]at hd
    subst hd
    exact⟨v,hr⟩
   |agg zs=>
    rw [hxx]at hd hr
    obtain⟨hn,g1,g2,g3⟩:=hr
    obtain⟨i,hi,rfl⟩:=List.getElem_of_mem hd
    obtain⟨u',_,_,hu⟩:=g3 i _ (zqc hi)
    exact⟨u',hu⟩
  obtain⟨u,hu⟩:=this
  exact hH.old b (hu.fp b hb)) hpost
 exact⟨v,_,_,m'',F2,he,⟨h++es,by rw [kJ,h3],h4⟩,hk,h1,h2⟩
end
theorem kC{β:BP}{F:List AT->EH->Prop}{xs:List AT}{eh:EH}(hF:F=fun xs eh=>BU Post xs (toH eh))(hs:∀bl:Nat->Nat,yO BP.lo bl (toH eh) xs->∃ys,jQ bl (toH eh) xs ys/\Post (mkV ys) []):F xs eh:=by
 subst hF
 exact .inr hs
abbrev MU:=List (List Nat×LLA×LLA)
section
variable {F:Nat->Prop}{U:MU}{w w':World}{m:AM}{h h':AH}
end
section
variable {P:Program}{tab:List (TypeId × TI)}{N:Nat}{F F0:Nat->Prop}{w0:World}{m0:AM}{h0:AH}
theorem mw{β:BP}{ops:Array Oper}{K:Exit->Act->World->Prop}{C:(Nat->AV)->AH->Prop}{l2:List Oper}(hg:ek N ops=true)
  (hC:∀(F:Nat->Prop)(T:Nat->AV)(h:AH)(a:Act)(w:World)(m:AM),dx F0 F w0 m0 h0->Rel F w0 m0 h0 N T h a w m->C T h->wpList P ops K l2 a w):
  ∀(l:List Oper)(F:Nat->Prop)(T:Nat->AV)(h:AH)(a:Act)(w:World)(m:AM),(∀o∈l,o∈ops.toList)->l.all (dR N)=true->dx F0 F w0 m0 h0->Rel F w0 m0 h0 N T h a w m->my P ops C l T h->wpList P ops K (l++l2) a w
 | [],F,T,h,a,w,m,_,_,hG,r,hs=>hC F T h a w m hG r hs
 |o::os,F,T,h,a,w,m,hmem,hd,hG,r,hs=>by
  simp only [zqD,zqs]at hd
  unfold my at hs
  rw [List.cons_append]
  unfold wpList
  rcases gu (a:=a) (fun g t h1 h2=>by rw [r.sz];exact dB hg (hmem o (by simp)) g t h1 h2) (fun g t _ _=>r.tm t) hs with⟨hw,hA⟩|⟨hw,hB⟩
  ·rw [if_pos hw]
   left
   refine(iq r.st.hp r.tm hA).wp (fun v w'⟨res,h',m',F1,hK,hG1,hs,hv⟩=> ?_)
   exact mw hg hC os F1 _ _ _ _ _ (fun o' ha=>hmem o' (by simp [ha])) hd.2 (r.grow hG hG1) (r.nextG hd.1 hG1.1 hs hv) hK
  ·rw [if_neg (by rw [hw];simp)]
   exact mw hg hC os F _ _ _ _ _ (fun o' ha=>hmem o' (by simp [ha])) hd.2 hG (r.skip hd.1) hB
end
section
variable {P:Program}{tab:List (TypeId × TI)}
end
section
variable {P:Program}{tab:List (TypeId × TI)}
end
def jP:AC->Bool
 | .imm _=>true
 | .fv _ _=>true
 |_=>false
section
variable {F:Nat->Prop}{w:World}
end
section
variable {P:Program}{n0 N:Nat}{g:Gd}
variable {args args':List AT}{K:AV->EH->Prop}
theorem DQ{β:BP}(hg:g=G0 P n0 N){h:EH}{f:FuncId}{Post:AV->List AB->Prop}(hc:cj P f args' Post)(ha:pc (toH h) args args')
  (hK:∀res hb,Post res hb->res.fresh=true/\(∀ab∈hb,AB.fresh ab=true)/\∃es:EH,toH es=(hb.map (AB.shift (toH h).length)).map .live/\K (res.shift (toH h).length) (h++es)):g .C f h args K:=
 qw hg ⟨args',Post,hc,.inr ⟨ha.at_.1,fun j x y h1 h2=>(ha.at_.2 j x y h1 h2).imp (fun⟨c,d,a,b,e⟩=>⟨c,d,a,b,.c e⟩) id,fun res hb hp=>hK res hb hp⟩⟩
theorem zG{β:BP}(hg:g=G0 P n0 N){h:EH}{f:FuncId}{r:AV}(hc:cj P f args' fun res hb=>res=r/\hb=[])(ha:pc (toH h) args args')(hr:rH r=true)(hK:K r (h++[])):g .C f h args K:=
 DQ hg hc ha fun res hb hp=>by
  obtain⟨rfl,rfl⟩:=hp
  exact⟨o8 hr,fun ab hd=>by simp at hd,[],rfl,by rw [fU (o7 hr)];exact hK⟩
end
end Go.Proofs.YtckchgoblpgpbaaGreat.Am
