/- A part of AM, a framework of the prover own: functions of any program as maps of data. -/
import Derived.Test.YtckchgoblpgpbaaGreatJ8ah
set_option linter.unusedVariables false
set_option linter.unusedSimpArgs false
namespace Go.Proofs.YtckchgoblpgpbaaGreat.Am
open Go.RowKit
def fpC:AC->List Nat
 | .fv bs _=>bs
 |_=>[]
def fpL(x:List AC):List Nat:=x.flatMap fpC
def fpE(es:LLA):List Nat:=es.flatMap fpL
def vwC:AC->AC
 | .fv _ xs=> .view xs
 | .old _ xs=> .view xs
 |c=>c
def fpH:EH->List Nat
 | []=>[]
 | .bx _ _ x::h=>fpL x++fpH h
 | .rw ab::h=>fpE ab.es++fpH h
 | .gn::h=>fpH h
section
variable {F:Nat->Prop}{w:World}
mutual
theorem SP.mem:∀{bs:List Nat}{c:AC}{v:Value},SP F w bs c v->∀b∈bs,F b
 |bs,.imm u,v,h=>by unfold SP at h;rw [h.2];simp
 |bs,.view xs,v,h=>by
  unfold SP at h
  obtain⟨p,cap,hv,h1,h2,h3⟩:=h
  rcases h3 with⟨_,rfl⟩|⟨b,k,bs',cur,ty,rfl,hp,hb,hc,hs,he⟩
  ·simp
  ·intro b' ha
   rcases zph.1 ha with rfl|ha
   ·exact hb
   ·exact SPE.mem he b' ha
 |bs,.dead,v,h=>by unfold SP at h;exact h.elim
 |bs,.own r,v,h=>by unfold SP at h;exact h.elim
 |bs,.sub r l n,v,h=>by unfold SP at h;exact h.elim
 |bs,.ptr r i o,v,h=>by unfold SP at h;exact h.elim
 |bs,.eptr cs o,v,h=>by unfold SP at h;exact h.elim
 |bs,.clo g rs,v,h=>by unfold SP at h;exact h.elim
 |bs,.fv b xs,v,h=>by unfold SP at h;exact h.elim
 |bs,.old b xs,v,h=>by unfold SP at h;exact h.elim
theorem SPE.mem:∀{bs:List Nat}{b k o:Nat}{xs:LLA},SPE F w bs b k o xs->∀b∈bs,F b
 |bs,b,k,o,[],h=>by unfold SPE at h;subst h;simp
 |bs,b,k,o,x::xs,h=>by
  unfold SPE at h
  obtain⟨b1,b2,rfl,h1,h2,h3⟩:=h
  intro b' ha
  rcases List.mem_append.1 ha with ha|ha
  ·exact SPL.mem h2 b' ha
  ·exact SPE.mem h3 b' ha
theorem SPL.mem:∀{bs:List Nat}{b o:Nat}{cs:List AC},SPL F w bs b o cs->∀b∈bs,F b
 |bs,b,o,[],h=>by unfold SPL at h;subst h;simp
 |bs,b,o,c::cs,h=>by
  unfold SPL at h
  obtain⟨b1,b2,rfl,⟨u,hu,h1,hc⟩,h2⟩:=h
  intro b' ha
  rcases List.mem_append.1 ha with ha|ha
  ·exact SP.mem hc b' ha
  ·exact SPL.mem h2 b' ha
end
theorem SPL.mk{b:Nat}:∀{cs:List AC}{o:Nat},(∀(j:Nat)(c:AC),cs[j]? =some c->∃u,w.cell? ⟨b,o+j,none⟩=some u/\one u=true/\SP F w (fpC c) (vwC c) u)->SPL F w (fpL cs) b o (cs.map vwC)
 | [],o,h=>by unfold SPL;rfl
 |c::cs,o,h=>by
  show SPL F w (fpL (c::cs)) b o (vwC c::cs.map vwC)
  unfold SPL
  refine⟨fpC c,fpL cs,by simp [fpL],by simpa using h 0 c rfl,SPL.mk (fun j d hj=> ?_)⟩
  have:=h (j+1) d (by simpa using hj)
  rwa [show o+(j+1)=o+1+j by omega]at this
theorem SPE.mk{b k:Nat}:∀{xs:LLA}{o:Nat},(∀(i:Nat)(x:List AC),xs[i]? =some x->x.length=k/\SPL F w (fpL x) b (o+i*k) (x.map vwC))->SPE F w (fpE xs) b k o (xs.map (·.map vwC))
 | [],o,h=>by unfold SPE;rfl
 |x::xs,o,h=>by
  show SPE F w (fpE (x::xs)) b k o (x.map vwC::xs.map (·.map vwC))
  unfold SPE
  obtain⟨h1,h2⟩:=h 0 x rfl
  refine⟨fpL x,fpE xs,by simp [fpE],by simpa using h1,by simpa using h2,SPE.mk (fun i y hi=> ?_)⟩
  have:=h (i+1) y (by simpa using hi)
  rwa [show o+(i+1)*k=o+k+i*k by rw [Nat.add_mul];omega]at this
end
def hd1(b:Nat):LLA->List Nat
 | []=>[]
 |_::_=>[b]
inductive xo(β:Nat->Nat)(h:AH):AC->AC->Prop
 |imm (u:Value):xo β h (.imm u) (.imm u)
 |fv (bs:List Nat) (xs:LLA):xo β h (.fv bs xs) (.fv bs xs)
 |row (r:Nat) (ab:AB) (es:LLA) (hr:h[r]? =some (.live ab)) (hl:es.length=ab.es.length)
   (hk:∀(i:Nat)(x y:List AC),ab.es[i]? =some x->es[i]? =some y->x.length=y.length)
   (he:∀(i:Nat)(x y:List AC),ab.es[i]? =some x->es[i]? =some y->∀(j:Nat)(c d:AC),x[j]? =some c->y[j]? =some d->xo β h c d):xo β h (.own r) (.fv (hd1 (β r) es++fpE es) (es.map (·.map vwC)))
section
variable {F:Nat->Prop}{w:World}{m:AM}{h:AH}
variable {β:Nat->Nat}
theorem xo.sound{bp:BP}(hH:RH F w m h)(hβ:∀(r:Nat)(ab:AB)(b c:Nat),h[r]? =some (.live ab)->m[r]? =some (some (b,c))->β r=b){c d:AC}(hr:xo β h c d):∀{v:Value},RC F w m h c v->SP (s7 F m h) w (fpC d) (vwC d) v:=by
 induction hr with
 |imm u=>intro v hv;show SP _ w [] (.imm u) v;unfold SP;exact⟨hv,rfl⟩
 |fv bs xs=>intro v hv;exact SP.ext (fun _ _ hb=> .inl hb) (fun _ _ _=>rfl) hv
 |row r ab es hr hl hk he ih=>
  intro v hv
  show SP _ w (hd1 (β r) es++fpE es) (.view (es.map (·.map vwC))) v
  unfold SP
  rcases hv with hg|⟨ab',h1,⟨b,cap,h2,rfl⟩|⟨h2,h3,rfl⟩⟩
  ·rw [hr]at hg;cases hg
  ·obtain⟨rfl,hF,hB⟩:=hH.get hr h1 h2
   have ha:=hB
   obtain⟨cur,g1,g2,g3,g4,g5⟩:=ha
   refine⟨some ⟨b,0,none⟩,cap,by simp [hl],by simp;omega,g4,?_⟩
   cases es with
   |nil=>exact .inl ⟨rfl,rfl⟩
   |cons e0 es0=>
    right
    have hb:=hβ r ab' b cap hr h2
    refine⟨b,ab'.k,fpE (e0::es0),cur,ab'.ty,by rw [<-hb];rfl,rfl,.inr ⟨r,ab',cap,hr,h2⟩,g1,g2,SPE.mk (fun i y hy=> ?_)⟩
    have hd:i<ab'.es.length:=by rw [<-hl];exact(zqb.1 hy).1
    have hx:=zqc hd
    have e1:=hk i _ y hx hy
    refine⟨by rw [<-e1];exact(g5 i _ hx).1,SPL.mk (fun j d hj=> ?_)⟩
    have hf:j<(ab'.es[i]).length:=by rw [e1];exact(zqb.1 hj).1
    have hc:=zqc hf
    obtain⟨u,hu,ho,hh⟩:=hB.cell hx j _ hc
    exact⟨u,by simpa using hu,ho,ih i _ y hx hy j _ d hc hj hh⟩
  ·rw [hr]at h1
   cases h1
   have:es=[]:=zqv (by omega)
   subst this
   exact⟨none,0,rfl,by simp,by simp,.inl ⟨rfl,rfl⟩⟩
theorem xo.rc{bp:BP}(hH:RH F w m h)(hβ:∀(r:Nat)(ab:AB)(b c:Nat),h[r]? =some (.live ab)->m[r]? =some (some (b,c))->β r=b){c d:AC}(hr:xo β h c d){v:Value}(hv:RC F w m h c v):RC (s7 F m h) w [] [] d v:=by
 have:=hr.sound hH hβ hv
 cases hr with
 |imm u=>exact hv
 |fv bs xs=>exact this
 |row=>exact this
end
inductive Cr(β:Nat->Nat)(h:AH):List AC->List AC->Prop
 |nil:Cr β h [] []
 |cons {c d:AC} {xs ys:List AC}:xo β h c d->Cr β h xs ys->Cr β h (c::xs) (d::ys)
inductive nL(β:Nat->Nat)(h:AH):List AT->List AT->Prop
 |nil:nL β h [] []
 |c {c d:AC} {xs ys:List AT}:xo β h c d->nL β h xs ys->nL β h (.c c::xs) (.c d::ys)
 |agg {a b:List AC} {xs ys:List AT}:Cr β h a b->nL β h xs ys->nL β h (.agg a::xs) (.agg b::ys)
section
variable {F:Nat->Prop}{w:World}{m:AM}{h:AH}{β:Nat->Nat}
theorem Cr.at_{a b:List AC}(hr:Cr β h a b):a.length=b.length/\∀(i:Nat)(c d:AC),a[i]? =some c->b[i]? =some d->xo β h c d:=by
 induction hr with
 |nil=>exact⟨rfl,fun i c d h=>by simp at h⟩
 |cons h1 _ ih=>
  refine⟨by simp [ih.1],fun i c d hc hd=> ?_⟩
  cases i with
  |zero=>simp at hc hd;subst hc hd;exact h1
  |succ i=>exact ih.2 i c d (by simpa using hc) (by simpa using hd)
theorem nL.at_{a b:List AT}(hr:nL β h a b):b.length=a.length/\∀(j:Nat)(x y:AT),a[j]? =some x->b[j]? =some y->(∃c d,x= .c c/\y= .c d/\xo β h c d)\/∃xs ys,x= .agg xs/\y= .agg ys/\xs.length=ys.length/\∀(i:Nat)(c d:AC),xs[i]? =some c->ys[i]? =some d->xo β h c d:=by
 induction hr with
 |nil=>exact⟨rfl,fun i c d h=>by simp at h⟩
 |c h1 _ ih=>
  refine⟨by simp [ih.1],fun i x y hx hy=> ?_⟩
  cases i with
  |zero=>simp at hx hy;subst hx hy;exact .inl ⟨_,_,rfl,rfl,h1⟩
  |succ i=>exact ih.2 i x y (by simpa using hx) (by simpa using hy)
 |agg h1 _ ih=>
  refine⟨by simp [ih.1],fun i x y hx hy=> ?_⟩
  cases i with
  |zero=>simp at hx hy;subst hx hy;exact .inr ⟨_,_,rfl,rfl,h1.at_.1,h1.at_.2⟩
  |succ i=>exact ih.2 i x y (by simpa using hx) (by simpa using hy)
theorem nL.rt{bp:BP}(hH:RH F w m h)(hβ:∀(r:Nat)(ab:AB)(b c:Nat),h[r]? =some (.live ab)->m[r]? =some (some (b,c))->β r=b){x y:AT}(hr:(∃c d,x= .c c/\y= .c d/\xo β h c d)\/∃xs ys,x= .agg xs/\y= .agg ys/\xs.length=ys.length/\∀(i:Nat)(c d:AC),xs[i]? =some c->ys[i]? =some d->xo β h c d){v:Value}(hv:RT F w m h x v):RT (s7 F m h) w [] [] y v:=by
 rcases hr with⟨c,d,rfl,rfl,h1⟩|⟨xs,ys,rfl,rfl,h1,h2⟩
 ·exact h1.rc hH hβ hv
 ·obtain⟨vs,g1,g2,g3⟩:=hv
  refine⟨vs,g1,by rw [g2,h1],fun i d hi=> ?_⟩
  have hb:i<xs.length:=by rw [h1];exact(zqb.1 hi).1
  have ha:=zqc hb
  obtain⟨u,hu,hc,hd⟩:=g3 i _ ha
  exact⟨u,hu,hc,(h2 i _ d ha hi).rc hH hβ hd⟩
theorem nL.rv{bp:BP}(hH:RH F w m h)(hβ:∀(r:Nat)(ab:AB)(b c:Nat),h[r]? =some (.live ab)->m[r]? =some (some (b,c))->β r=b){xs ys:List AT}(hr:nL β h xs ys){v:Value}(hv:RV F w m h (mkV xs) v):RV (s7 F m h) w [] [] (mkV ys) v:=by
 obtain⟨hl,ha⟩:=hr.at_
 have many:(∀x,xs≠[x])->RV F w m h (.tup xs) v->RV (s7 F m h) w [] [] (.tup ys) v:=fun _ hv=>by
  obtain⟨vs,g1,g2,g3⟩:=hv
  refine⟨vs,g1,by rw [g2,hl],fun j y hj=> ?_⟩
  have hc:j<xs.length:=by rw [<-hl];exact(zqb.1 hj).1
  have hb:=zqc hc
  obtain⟨u,hu,hd⟩:=g3 j _ hb
  exact⟨u,hu,nL.rt hH hβ (ha j _ y hb hj) hd⟩
 match xs,ys,hl,hr,ha with
 | [],[],_,_,_=>exact many (fun x hx=>by cases hx) hv
 | [x],[y],_,_,ha=>exact nL.rt hH hβ (ha 0 x y rfl rfl) hv
 |x::x'::xs,y::y'::ys,_,_,_=>exact many (fun x hx=>by cases hx) hv
end
def Cq(P:Program)(f:FuncId)(args:List AT)(Post:Nat->AV->List AB->Prop):Prop:=∀lo:Nat, @Con ⟨lo,fun _=>False⟩ P f [] args fun res h'=>∃rows,h'=rows.map .live/\Post lo res rows
def Ef(lo:Nat)(β:Nat->Nat)(h:AH)(xs:List AT):Prop:=∀(r:Nat)(ab:AB),h[r]? =some (.live ab)->ab.es≠[]->lo<=β r/\(∀(r':Nat)(ab':AB),h[r']? =some (.live ab')->ab'.es≠[]->β r=β r'->r=r')/\
 (∀(r':Nat)(ab':AB),h[r']? =some (.live ab')->∀x∈ab'.es,∀c∈x,β r∉fpC c)/\∀x∈xs,∀c∈x.cells,β r∉fpC c
def IC [BP](Post:AV->List AB->Prop)(xs:List AT)(h:AH):Prop:=
 (∃res' h' ρ,Wk 0 (fun _=>mkV xs) h [(0,res')] h' ρ/\∃rows,h'=rows.map .live/\Post res' rows)\/∀β:Nat->Nat,Ef BP.lo β h xs->∃ys,nL β h xs ys/\Post (mkV ys) []
def K4 [BP](P:Program)(rs:List ResultVar)(Post:AV->List AB->Prop):Exit->(Nat->AV)->AH->Prop
 | .normal,T,h=>rsL P T h rs fun xs=>IC Post xs h
 | .ret,T,h=>rsL P T h rs fun xs=>IC Post xs h
 |_,_,_=>False
variable {P:Program}{f:FuncId}{Post:AV->List AB->Prop}{args:List AT}
theorem Co{β:BP}(hex:∀b,¬BP.ex b){fn:Func}{c:Code}(hf:P.funcs[f]? =some fn)(hb:fn.body=some c)(hnm:(fn.name== "runtime.NumGoroutine")=false)(hn:args.length<=fn.ntmps)
  (hv:VC P 0 fn.ntmps c (K4 P fn.results.toList Post) (T0 args) []):Con P f [] args fun res h'=>∃rows,h'=rows.map .live/\Post res rows:=by
 refine⟨by unfold lr;rw [hf];simp [hnm,hb],fun F w m vs hH hl ha=> ?_⟩
 refine calls_of_wp hf hb ?_
 have hJ:vs.toArray.size=args.length:=by simpa using hl
 have ho:Rel F w m [] fn.ntmps (T0 args) [] {tmps:=vs.toArray++Array.replicate (fn.ntmps-vs.toArray.size) undef,defers:=[]} w m:=by
  refine⟨fun d=> ?_,(dI.refl hH).x,rfl,by simp [hl];omega⟩
  unfold T0
  cases hd:args[d]? with
  |some x=>
   obtain⟨v,hv,hr⟩:=ha d x hd
   have hD:d<vs.length:=(zqb.1 hv).1
   have:(vs.toArray++Array.replicate (fn.ntmps-vs.toArray.size) undef).getD d undef=v:=by
    rw [Array.getD_eq_getD_getElem?,Array.getElem?_append_left (by simpa using hD)]
    simp [hv]
   rw [this]
   exact hr
  |none=>
   have hE:vs.length<=d:=by rw [hl];exact List.getElem?_eq_none_iff.1 hd
   have:(vs.toArray++Array.replicate (fn.ntmps-vs.toArray.size) undef).getD d undef=undef:=by
    rw [Array.getD_eq_getD_getElem?,Array.getElem?_append_right (by simpa using hE),Array.getElem?_replicate]
    split<;>rfl
   rw [this]
   rfl
 refine Code.wp_mono (fun e a' w'⟨T',h',m',F1,hq,hG,r⟩=> ?_) (hv F w m [] _ w m rfl ho)
 have hC:rsL P T' h' fn.results.toList (fun xs=>IC Post xs h')->a'.defers=[]/\∃v,(results fn a'.tmps).run P w'= .ok v w'/\∃v_1 res h' m' F',Ending.returned v= .returned v_1/\(∃rows,h'=rows.map .live/\Post res rows)/\fJ F F' w m []/\dI F' w m [] w' m' h'/\RV F' w' m' h' res v_1:=by
  intro hq
  obtain⟨xs,v,he,hr,hg⟩:=iy r.tm r.st.hp hq
  rcases he with⟨res',h'',ρ,hw,hp⟩|he
  ·obtain⟨h1,h2,h3,h4,h5⟩:=hw
   refine⟨r.df,v,hr,v,res',h'',_,F1,rfl,hp,hG,(r.st.rn rfl h1 h2 h3 h4).full hex,RV.rn r.st.hp h4 hg ?_⟩
   unfold rnK at h5
   exact h5.1
  ·obtain⟨bl,hz⟩:∃bl:Nat->Nat,∀(r:Nat)(ab:AB)(b c:Nat),h'[r]? =some (.live ab)->m'[r]? =some (some (b,c))->bl r=b:=
    ⟨fun r=>match m'[r]? with|some (some (b,_))=>b|_=>0,fun r0 ab b c _ h2=>by simp only [h2]⟩
   have hy:∀(r0:Nat)(ab:AB),h'[r0]? =some (.live ab)->ab.es≠[]->∃c,m'[r0]? =some (some (bl r0,c)):=fun r0 ab h1 h2=>by
    rcases r.st.hp.at_ r0 ab h1 with⟨_,h3⟩|⟨b,c,h3,_⟩
    ·exact(h2 (zqv h3)).elim
    ·exact⟨c,by rw [hz r0 ab b c h1 h3];exact h3⟩
   have ht:∀(c:AC)(u:Value),RC F1 w' m' h' c u->∀b∈fpC c,F1 b:=fun c u hc b hb=>by
    cases c<;>first|exact SP.mem hc b hb|simp [fpC]at hb
   obtain⟨ys,hs,hp⟩:=he bl (fun r0 ab h1 h2=>by
    obtain⟨c,h3⟩:=hy r0 ab h1 h2
    obtain⟨hA,_⟩:=r.st.hp.lt h1 h3
    refine⟨?_,fun r' hh h4 h5 h6=> ?_,fun r' hh h4 x hx c' hk hb=> ?_,fun x hx c' hk hb=> ?_⟩
    ·rcases r.st.own r0 ab _ c h1 h3 with⟨r1,ab1,c1,g3,_⟩|g3
     ·simp at g3
     ·exact zpb hH.lo g3
    ·obtain⟨c2,h7⟩:=hy r' hh h4 h5
     rw [h6]at h3
     exact r.st.hp.inj r0 r' ab hh _ c c2 h1 h4 h3 h7
    ·obtain⟨i,hi,rfl⟩:=zpi hx
     obtain⟨j,hj,rfl⟩:=zpi hk
     rcases r.st.hp.at_ r' hh h4 with⟨_,h3'⟩|⟨b2,c2,_,_,hB⟩
     ·omega
     ·obtain⟨u,_,_,hu⟩:=hB.cell (zqc hi) j _ (zqc hj)
      exact hA (ht _ u hu _ hb)
    ·have cell:∀(x:AT)(u:Value),RT F1 w' m' h' x u->∀c∈x.cells,∃u',RC F1 w' m' h' c u':=fun x u hx c hc=>by
      cases x with
      |c y=>simp only [AT.cells,zpa]at hc;subst hc;exact⟨u,hx⟩
      |agg zs=>
       obtain⟨vs,g1,g2,g3⟩:=hx
       obtain⟨j,hj,rfl⟩:=zpi hc
       obtain⟨u',_,_,hu⟩:=g3 j _ (zqc hj)
       exact⟨u',hu⟩
     have hI:∃u,RT F1 w' m' h' x u:=by
      match xs,hg,hx with
      | [y],hg,hx=>simp only [zpa]at hx;subst hx;exact⟨v,hg⟩
      |y::y'::zs,hg,hx=>
       obtain⟨vs,g1,g2,g3⟩:=hg
       obtain⟨j,hj,rfl⟩:=zpi hx
       obtain⟨u',_,hu⟩:=g3 j _ (zqc hj)
       exact⟨u',hu⟩
     obtain⟨u,hu⟩:=hI
     obtain⟨u',hF⟩:=cell x u hu c' hk
     exact hA (ht _ u' hF _ hb))
   have hm:∀b,s7 F1 m' h' b->b<w'.heap.size:=fun b hb=>by
    rcases hb with hb|⟨r0,ab,c,g1,g2⟩
    ·exact r.st.hp.old b hb
    ·exact(r.st.hp.lt g1 g2).2
   refine⟨r.df,v,hr,v,mkV ys,[],[],s7 F1 m' h',rfl,⟨[],rfl,hp⟩,⟨fun b hb=> .inl (hG.1 b hb),fun b hb=> ?_⟩,⟨RH.empty hm r.st.hp.lo,fun r0=>⟨fun hx=>by simp at hx,fun ab hx=>by simp at hx⟩,r.st.os,r.st.tape,r.st.output,r.st.size,(r.st.full hex).blk,fun r0 ab b c hx=>by simp at hx⟩,nL.rv r.st.hp hz hs hg⟩
   rcases hb with hb|⟨r0,ab,c,g1,g2⟩
   ·exact hG.2 b hb
   ·rcases r.st.own r0 ab b c g1 g2 with⟨r1,ab1,c1,g3,_⟩|g3
    ·simp at g3
    ·exact .inr (.inl g3)
 cases e with
 |normal=>exact hC hq
 |ret=>exact hC hq
 |exit id=>exact hq.elim
 |goto l=>exact hq.elim
 |panic c=>exact hq.elim
 |outgrown=>exact hq.elim
section
variable {P:Program}{tab:List (TypeId × TI)}
theorem qS(ets:ET)(lts:LT){f:FuncId}{fn:Func}{c:Code}{args:List AT}{Post:Nat->AV->List AB->Prop}(hfit:fL P tab)(hf:P.funcs[f]? =some fn)(hb:fn.body=some c)(hnm:(fn.name== "runtime.NumGoroutine")=false)(hn:Nat.ble args.length fn.ntmps=true)
  (hok:dh ets lts fn.ntmps c=true) (hv:∀(β:BP)(g:Gd)(eff:EF)(hd:HF)(F:List AT->EH->Prop),eff=Ci P->hd=hd0 P 0 fn.ntmps->g=G0 P 0 fn.ntmps->F=(fun xs eh=>IC (Post β.lo) xs (toH eh))->jM ets lts eff hd g tab c (zF tab fn.results.toList F) (sV args 0) []):Cq P f args Post:=fun lo=>by
 refine Co (β:=⟨lo,fun _=>False⟩) (fun _ h=>h) hf hb hnm (bl hn) (jI (T':=lkT (sV args 0)) (fun d=> ?_) (fD (fun e T h hq=> ?_) (dd hfit c _ _ [] hok (hv ⟨lo,fun _=>False⟩ _ _ _ _ rfl rfl rfl rfl))))
 ·rcases nH args 0 d with h1|⟨x,h1,h2,h3⟩
  ·exact .inl h1
  ·refine .inr ?_
   rw [h3]
   simp only [Nat.sub_zero]at h1
   simp only [T0,h1]
 ·obtain⟨l,eh,rfl,rfl,hq⟩:=hq
  cases e<;>first
   |exact hq.elim
   |exact fN hfit _ _ hq
end
variable {w:World}{h:AH}
theorem RC.fp{F:Nat->Prop}{m:AM}{c:AC}{v:Value}(hc:RC F w m h c v):∀b∈fpC c,F b:=fun b hb=>by
 cases c<;>first|exact SP.mem hc b hb|simp [fpC]at hb
theorem GL{bp:BP}{F:Nat->Prop}{w:World}{m:AM}:∀{h:EH}{H:AH},(∀(i:Nat)(e:EE),h[i]? =some e->∃r:Nat,H[r]? =some e.e)->RH F w m H->∀b∈fpH h,b<w.heap.size
 | [],H,hs,hH,b,hb=>by simp [fpH]at hb
 |e::h,H,hs,hH,b,hb=>by
  have rest:b∈fpH h->b<w.heap.size:=GL (fun i e' hi=>hs (i+1) e' (by simpa using hi)) hH b
  obtain⟨r,hr⟩:=hs 0 e rfl
  have cell:∀(ab:AB)(i j:Nat)(x:List AC)(c:AC),e.e= .live ab->ab.es[i]? =some x->x[j]? =some c->b∈fpC c->b<w.heap.size:=fun ab i j x c he hx hc hb=>by
   rw [he]at hr
   rcases hH.at_ r ab hr with⟨_,h3⟩|⟨b2,c2,_,_,hB⟩
   ·have:=(zqb.1 hx).1;omega
   ·obtain⟨u,_,_,hu⟩:=hB.cell hx j c hc
    exact hH.old b (hu.fp b hb)
  cases e with
  |gn=>exact rest hb
  |bx t k x=>
   rcases List.mem_append.1 hb with hb|hb
   ·obtain⟨c,hc,hb⟩:=List.mem_flatMap.1 hb
    obtain⟨j,hj,rfl⟩:=zpi hc
    exact cell ⟨t,k,[x]⟩ 0 j x _ rfl rfl (zqc hj) hb
   ·exact rest hb
  |rw ab=>
   rcases List.mem_append.1 hb with hb|hb
   ·obtain⟨x,hx,hb⟩:=List.mem_flatMap.1 hb
    obtain⟨i,hi,rfl⟩:=zpi hx
    obtain⟨c,hc,hb⟩:=List.mem_flatMap.1 hb
    obtain⟨j,hj,rfl⟩:=zpi hc
    exact cell ab i j _ _ rfl (zqc hi) (zqc hj) hb
   ·exact rest hb
def fpA(args:List AT):List Nat:=args.flatMap fun x=>fpL x.cells
section
variable {P:Program}{n0 N:Nat}{g:Gd}
variable {args args':List AT}{K:AV->EH->Prop}
theorem KO{β:BP}(hg:g=G0 P n0 N){h:EH}{f:FuncId}{Post:Nat->AV->List AB->Prop}(hc:Cq P f args' Post)(ha:dwA args args')
  (hK:∀lo res rows,BP.lo<=lo->(∀b∈fpH h,b<lo)->(∀b∈fpA args,b<lo)->Post lo res rows->∃es:EH,toH es=(rows.map (AB.shift (toH h).length)).map .live/\K (res.shift (toH h).length) (h++es)):g .C f h args K:=by
 subst hg
 obtain⟨e1,e2⟩:=ha.at_
 refine⟨(hc 0).1,fun F w m vs hH hl hx=> ?_⟩
 have:=(hc w.heap.size).2 F w [] vs (RH.empty hH.old (zpk _)) (by rw [hl,e1]) (fun j y hj=>by
  have hf:j<args.length:=by rw [e1];exact(zqb.1 hj).1
  obtain⟨v,hv,hr⟩:=hx j _ (zqc hf)
  exact⟨v,hv,(e2 j _ y (zqc hf) hj).rt hr⟩)
 refine this.mono fun e w''⟨v,res,h',m',F1,he,⟨rows,hh,hpost⟩,hG,hs,hv⟩=> ?_
 subst hh
 obtain⟨m'',F2,hk,h1,h2⟩:=dI.of_outG hH (jf (n:=(toH h).length) hG hs hv)
 obtain⟨es,h3,h4⟩:=hK _ res rows hH.lo (GL (fun i e hi=>⟨i,by simp [toH,hi]⟩) hH) (fun b hb=>by
  obtain⟨x,hm,hb⟩:=List.mem_flatMap.1 hb
  obtain⟨j,hj,rfl⟩:=zpi hm
  obtain⟨v,hv,hr⟩:=hx j _ (zqc hj)
  obtain⟨c,hd,hb⟩:=List.mem_flatMap.1 hb
  have:∃u,RC F w m (toH h) c u:=by
   cases hxx:args[j]with
   |c d=>
    rw [hxx]at hd hr
    simp only [AT.cells,zpa]at hd
    subst hd
    exact⟨v,hr⟩
   |agg zs=>
    rw [hxx]at hd hr
    obtain⟨hn,g1,g2,g3⟩:=hr
    obtain⟨i,hi,rfl⟩:=zpi hd
    obtain⟨u',_,_,hu⟩:=g3 i _ (zqc hi)
    exact⟨u',hu⟩
  obtain⟨u,hu⟩:=this
  exact hH.old b (hu.fp b hb)) hpost
 exact⟨v,_,_,m'',F2,he,⟨h++es,by rw [o4,h3],h4⟩,hk,h1,h2⟩
theorem BC{β:BP}(hg:g=G0 P n0 N){h:EH}{f:FuncId}{Q:Nat->AV->Prop}(hc:Cq P f args' fun lo res hb=>Q lo res/\dv res=true/\hb=[])(ha:dwA args args')
  (hK:∀lo res,BP.lo<=lo->(∀b∈fpH h,b<lo)->(∀b∈fpA args,b<lo)->Q lo res->K res (h++[])):g .C f h args K:=
 KO hg hc ha fun lo res hb h1 h2 h3⟨h4,h5,h6⟩=>by
  subst h6
  exact⟨[],rfl,by rw [ea h5];exact hK lo res h1 h2 h3 h4⟩
end
variable {F:List AT->EH->Prop}{eh:EH}{xs:List AT}
theorem KE{β:BP}(hF:F=fun xs eh=>IC Post xs (toH eh))(hp:dv (mkV xs)=true)(hpost:Post (mkV xs) []):F xs eh:=by
 subst hF
 exact .inl ⟨mkV xs,[],[],⟨zpk _,fun i hi=>absurd hi (zpq _),List.nodup_nil,trivial,iR hp,zpt⟩,[],rfl,hpost⟩
theorem HX{β:BP}(hF:F=fun xs eh=>IC Post xs (toH eh))(hs:∀bl:Nat->Nat,Ef BP.lo bl (toH eh) xs->∃ys,nL bl (toH eh) xs ys/\Post (mkV ys) []):F xs eh:=by
 subst hF
 exact .inr hs
abbrev MU:=List (List Nat×LLA×LLA)
structure MkW(F:Nat->Prop)(U:MU)(w w':World):Prop where
 os:w'.os=w.os
 tape:w'.tape=w.tape
 output:w'.output=w.output
 size:w.heap.size<=w'.heap.size
 blk:∀b,b<w.heap.size->(∀u∈U,b∉u.1)->w'.heap[b]? =w.heap[b]?
 sz:∀(b:Nat)(cur:Array Value)(ty:TypeId),w.heap[b]? =some (.cells cur ty (0,0))->∃cur':Array Value,w'.heap[b]? =some (.cells cur' ty (0,0))/\cur'.size=cur.size
 upd:∀u∈U,∀v,SP F w u.1 (.view u.2.1) v->SP F w' u.1 (.view u.2.2) v
def Er(P:Program)(f:FuncId)(args:List AT)(U:MU)(r:Value):Prop:=lr P f=true/\
 ∀(F:Nat->Prop)(w:World)(vs:List Value),(∀b,F b->b<w.heap.size)->vs.length=args.length->(∀(j:Nat)(x:AT),args[j]? =some x->∃v,vs[j]? =some v/\RT F w [] [] x v)->
  Calls P f vs.toArray w fun e w'=>e= .returned r/\MkW F U w w'
def okM(U:MU):AC->Prop
 | .fv bs _=>∀b∈bs,∀u∈U,b∉u.1
 | .old p _=>∀u∈U,∀b∈u.1,p<=b
 | .view _| .eptr _ _=>False
 |_=>True
def sfC(U:MU)(c' c:AC):Prop:=c'= .dead\/(c'=c/\okM U c)\/∃u∈U,c= .fv u.1 u.2.1/\c'= .fv u.1 u.2.2
def sfL(U:MU):List AC->List AC->Prop
 | [],[]=>True
 |c'::l',c::l=>sfC U c' c/\sfL U l' l
 |_,_=>False
def sfV(U:MU):AV->AV->Prop
 | .t (.c .dead),_=>True
 | .t (.c c'),.t (.c c)=>sfC U c' c
 | .t (.agg a'),.t (.agg a)=>sfL U a' a
 |_,_=>False
def sfK(U:MU)(T:Nat->AV):List (Nat×AV)->Prop
 | []=>True
 |(k,v)::l=>sfV U v (T k)/\sfK U T l
def sfE(U:MU):EE->EE->Prop
 | .bx t' k' x',.bx t k x=>t'=t/\k'=k/\sfL U x' x
 | .rw ab',.rw ab=>(ab'=ab/\qd ab.es=true)\/(ab'.ty=ab.ty/\ab'.k=ab.k/\ab'.es.length=ab.es.length/\∀(i:Nat)(x' x:List AC),ab'.es[i]? =some x'->ab.es[i]? =some x->sfL U x' x)
 | .gn,.gn=>True
 |_,_=>False
def sfH(U:MU):EH->EH->Prop
 | [],[]=>True
 |e'::h',e::h=>sfE U e' e/\sfH U h' h
 |_,_=>False
theorem Ao{U:MU}:∀{l' l:List AC},sfL U l' l->l'.length=l.length/\∀(i:Nat)(c' c:AC),l'[i]? =some c'->l[i]? =some c->sfC U c' c
 | [],[],_=>⟨rfl,fun i c d h=>by simp at h⟩
 | [],_::_,h=>h.elim
 |_::_,[],h=>h.elim
 |x::a,y::b,h=>by
  have ih:=Ao h.2
  refine⟨by simp [ih.1],fun i c d hc hd=> ?_⟩
  cases i with
  |zero=>simp at hc hd;subst hc hd;exact h.1
  |succ i=>exact ih.2 i c d (by simpa using hc) (by simpa using hd)
theorem CR{U:MU}:∀{l' l:EH},sfH U l' l->l'.length=l.length/\∀(i:Nat)(c' c:EE),l'[i]? =some c'->l[i]? =some c->sfE U c' c
 | [],[],_=>⟨rfl,fun i c d h=>by simp at h⟩
 | [],_::_,h=>h.elim
 |_::_,[],h=>h.elim
 |x::a,y::b,h=>by
  have ih:=CR h.2
  refine⟨by simp [ih.1],fun i c d hc hd=> ?_⟩
  cases i with
  |zero=>simp at hc hd;subst hc hd;exact h.1
  |succ i=>exact ih.2 i c d (by simpa using hc) (by simpa using hd)
section
variable {F:Nat->Prop}{U:MU}{w w':World}{m:AM}{h h':AH}
theorem sfC.rc(hold:∀b,F b->b<w.heap.size)(hm:MkW F U w w')(hk:fW m h m h'){c' c:AC}(hs:sfC U c' c){v:Value}(hc:RC F w m h c v):RC F w' m h' c' v:=by
 rcases hs with rfl|⟨rfl,ho⟩|⟨u,hu,rfl,rfl⟩
 ·trivial
 ·cases c' with
  |imm u=>exact hc
  |view xs=>exact ho.elim
  |eptr cs o=>exact ho.elim
  |fv bs xs=>exact SP.ext (fun _ _ hb=>hb) (fun b hb hF=>hm.blk b (hold b hF) (ho b hb)) hc
  |old p xs=>exact RP.ext (fun _ hb=>hb) (fun b hb=>hm.blk b (hold b hb.1) (fun u hu ha=>by have:=ho u hu b ha;omega)) hc
  |own r=>exact RC.ext (F:=fun _=>False) (F':=fun _=>False) (w:=w) (w':=w') (fun _ hb=>hb) (fun _ hb=>hb.elim) hk (c:= .own r) hc
  |sub r lo n=>exact RC.ext (F:=fun _=>False) (F':=fun _=>False) (w:=w) (w':=w') (fun _ hb=>hb) (fun _ hb=>hb.elim) hk (c:= .sub r lo n) hc
  |ptr r i o=>exact RC.ext (F:=fun _=>False) (F':=fun _=>False) (w:=w) (w':=w') (fun _ hb=>hb) (fun _ hb=>hb.elim) hk (c:= .ptr r i o) hc
  |clo g rs=>exact RC.ext (F:=fun _=>False) (F':=fun _=>False) (w:=w) (w':=w') (fun _ hb=>hb) (fun _ hb=>hb.elim) hk (c:= .clo g rs) hc
  |dead=>trivial
 ·exact hm.upd u hu v hc
theorem sfV.rv(hold:∀b,F b->b<w.heap.size)(hm:MkW F U w w')(hk:fW m h m h'){x' x:AV}(hs:sfV U x' x){v:Value}(hc:RV F w m h x v):RV F w' m h' x' v:=by
 unfold sfV at hs
 split at hs
 ·trivial
 ·exact sfC.rc hold hm hk hs hc
 ·obtain⟨vs,h1,h2,h3⟩:=hc
  obtain⟨e1,e2⟩:=Ao hs
  refine⟨vs,h1,by rw [h2,e1],fun j c' hj=> ?_⟩
  have ha:=(zqb.1 hj).1
  rw [e1]at ha
  obtain⟨u,hu,ho,hr⟩:=h3 j _ (zqc ha)
  exact⟨u,hu,ho,sfC.rc hold hm hk (e2 j c' _ hj (zqc ha)) hr⟩
 ·exact hs.elim
theorem CQ{T:Nat->AV}:∀{l:List (Nat×AV)},sfK U T l->∀d,sfV U (lkT l d) (T d)
 | [],_,d=>by simp [lkT,sfV]
 |(k,v)::l,hs,d=>by
  simp only [lkT]
  by_cases hd:d=k
  ·subst hd;rw [if_pos rfl];exact hs.1
  ·rw [if_neg hd];exact CQ hs.2 d
end
section
variable {P:Program}{tab:List (TypeId × TI)}{N:Nat}{F F0:Nat->Prop}{w0:World}{m0:AM}{h0:AH}
theorem n9{β:BP}{ops:Array Oper}{K:Exit->Act->World->Prop}{C:(Nat->AV)->AH->Prop}{l2:List Oper}(hg:gz N ops=true)
  (hC:∀(F:Nat->Prop)(T:Nat->AV)(h:AH)(a:Act)(w:World)(m:AM),fJ F0 F w0 m0 h0->Rel F w0 m0 h0 N T h a w m->C T h->wpList P ops K l2 a w):
  ∀(l:List Oper)(F:Nat->Prop)(T:Nat->AV)(h:AH)(a:Act)(w:World)(m:AM),(∀o∈l,o∈ops.toList)->l.all (fT N)=true->fJ F0 F w0 m0 h0->Rel F w0 m0 h0 N T h a w m->s8 P ops C l T h->wpList P ops K (l++l2) a w
 | [],F,T,h,a,w,m,_,_,hG,r,hs=>hC F T h a w m hG r hs
 |o::os,F,T,h,a,w,m,hmem,hd,hG,r,hs=>by
  simp only [zqD,zqs]at hd
  unfold s8 at hs
  rw [List.cons_append]
  unfold wpList
  rcases jT (a:=a) (fun g t h1 h2=>by rw [r.sz];exact fu hg (hmem o (by simp)) g t h1 h2) (fun g t _ _=>r.tm t) hs with⟨hw,hA⟩|⟨hw,hB⟩
  ·rw [if_pos hw]
   left
   refine(l9 r.st.hp r.tm hA).wp (fun v w'⟨res,h',m',F1,hK,hG1,hs,hv⟩=> ?_)
   exact n9 hg hC os F1 _ _ _ _ _ (fun o' ha=>hmem o' (by simp [ha])) hd.2 (r.grow hG hG1) (r.nextG hd.1 hG1.1 hs hv) hK
  ·rw [if_neg (by rw [hw];simp)]
   exact n9 hg hC os F _ _ _ _ _ (fun o' ha=>hmem o' (by simp [ha])) hd.2 hG (r.skip hd.1) hB
def Io(U:MU)(ab' ab:AB):Prop:=ab'.ty=ab.ty/\ab'.k=ab.k/\ab'.es.length=ab.es.length/\∀(i:Nat)(x' x:List AC),ab'.es[i]? =some x'->ab.es[i]? =some x->x'.length=x.length/\∀(j:Nat)(c' c:AC),x'[j]? =some c'->x[j]? =some c->sfC U c' c
theorem EB{U:MU}{e' e:EE}(hs:sfE U e' e):(∃ab' ab,e'.e= .live ab'/\e.e= .live ab/\Io U ab' ab)\/e'.e= .gone/\e.e= .gone:=by
 unfold sfE at hs
 split at hs
 ·obtain⟨rfl,rfl,h⟩:=hs
  obtain⟨e1,e2⟩:=Ao h
  refine .inl ⟨_,_,rfl,rfl,rfl,rfl,rfl,fun i x' x ha hx=> ?_⟩
  cases i with
  |zero=>simp at ha hx;subst ha hx;exact⟨e1,e2⟩
  |succ i=>simp at ha
 ·rcases hs with⟨rfl,h⟩|⟨g1,g2,g3,g4⟩
  case inr=>exact .inl ⟨_,_,rfl,rfl,g1,g2,g3,fun i x' x ha hx=>Ao (g4 i x' x ha hx)⟩
  refine .inl ⟨_,_,rfl,rfl,rfl,rfl,rfl,fun i x' x ha hx=> ?_⟩
  rw [ha]at hx
  cases hx
  refine⟨rfl,fun j c' c hb hc=> ?_⟩
  rw [hb]at hc
  cases hc
  unfold qd at h
  have:=zqf.1 (zqf.1 h _ (zqd ha)) _ (zqd hb)
  cases c'<;>first|exact .inr (.inl zr1)|cases this
 ·exact .inr ⟨rfl,rfl⟩
 ·exact hs.elim
theorem Ap{U:MU}{h' h:EH}(hs:sfH U h' h)(r:Nat):((toH h')[r]? =none/\(toH h)[r]? =none)\/(∃ab' ab,(toH h')[r]? =some (.live ab')/\(toH h)[r]? =some (.live ab)/\Io U ab' ab)\/((toH h')[r]? =some .gone/\(toH h)[r]? =some .gone):=by
 obtain⟨e1,e2⟩:=CR hs
 by_cases hr:r<h.length
 ·have a1:=zqc hr
  have a2:=zqc (l:=h') (by rw [e1];exact hr)
  simp only [toH,zqi,a1,a2,Option.map_some]
  rcases EB (e2 r _ _ a2 a1)with⟨ab',ab,g1,g2,g3⟩|⟨g1,g2⟩
  ·exact .inr (.inl ⟨ab',ab,by rw [g1],by rw [g2],g3⟩)
  ·exact .inr (.inr ⟨by rw [g1],by rw [g2]⟩)
 ·left
  simp [toH,zqz (show h.length<=r by omega),zqz (show h'.length<=r by omega)]
theorem Bu:∀{args:List AT},zJ args=true->∀x∈args,dwT x x
 | [],_,x,hx=>by simp at hx
 |y::ys,hp,x,hx=>by
  have:=(gV hp)
  rcases zph.1 hx with rfl|hx
  ·exact this.1
  ·simp only [zJ,zqs]at hp
   exact Bu hp.2 x hx
def MkC [BP](P:Program)(tab:List (TypeId×TI))(N:Nat)(g:Gd)(ops:List Oper)(Q:List (Nat×AV)->EH->Prop)(o:Oper)(l2:List Oper)(l:List (Nat×AV))(h:EH):Prop:=
 ∃c f args U r l' h',o.guard=none/\o.op= .call c/\c.callee= .value (.func f)/\zT (lkT l) c.args.toList=some args/\zJ args=true/\Er P f args U r/\(∀u∈U,∀b∈u.1,BP.ex b)/\(∀u∈U,∃x∈args,.fv u.1 u.2.1∈x.cells)/\
  sfK U (lkT l) l'/\sfH U h' h/\lz g tab ops Q l2 0 (s9 l' o.dst (.t (.c (.imm r)))) h'
variable {Q:Exit->List (Nat×AV)->EH->Prop}{l:List (Nat×AV)}{os:List Oper}
theorem Hb{β:BP}{n0:Nat}(hfit:fL P tab){id:Nat}(k:Nat)(o:Oper)(l2:List Oper)(hsplit:os=os.take k++o::l2)(hok:gg N os.toArray=true){h:EH}
  (hp:lz (G0 P n0 N) tab os (MkC P tab N (G0 P n0 N) os (fun l h=>Q .normal l h) o l2) (os.take k) 0 l h):VC P n0 N (.region id os.toArray false) (QE Q) (lkT l) (toH h):=fun F w0 m0 h0 a w m hn r=>by
 unfold gg at hok
 simp only [zqs]at hok
 have hg:os.all (fT N)=true:=hok.2
 refine wp_region_list ?_
 have h6:∀o'∈os,o'∈os.toArray.toList:=fun o' hd=>hd
 show wpList P os.toArray _ os a w
 have h9:=cj hfit (ops:=os.toArray) _ 0 l h hp
 have ht:∀o'∈os.take k,o'∈os:=fun o' hd=>List.mem_of_mem_take hd
 have ho:o∈os:=by rw [hsplit];simp
 have hM:∀o'∈l2,o'∈os:=fun o' hd=>by rw [hsplit];simp [hd]
 have hz:=n9 (P:=P) (F0:=F) (w0:=w0) (m0:=m0) (h0:=h0) (K:=kO F w0 m0 h0 N (QE Q)) (l2:=o::l2) hok.1 (fun F1 T1 h1 a1 w1 m1 hU r1 hc=>by
  obtain⟨l1,hJ,rfl,rfl,c,f,args,U,r0,l',h',hY,h7,hC,hs,hD,hm,h5,hZ,hk,hh,hG⟩:=hc
  unfold wpList
  rw [if_pos (by unfold Region.wanted;rw [hY])]
  left
  have hE:=oY _ _ hs
  obtain⟨hl,hx⟩:=iO r1.tm hE
  refine Yl.wp (R:=fun v w'=>v=r0/\MkW F1 U w1 w') ?_ ?_
  ·unfold Yl
   rw [od h7 hC hm.1]
   have:=hm.2 F1 w1 (c.args.toList.map a1.eval) r1.st.hp.old hl (fun j x hj=>by
    obtain⟨v,hv,hr⟩:=hx j x hj
    exact⟨v,hv,(Bu hD x (zqd hj)).rt hr⟩)
   have e:(c.args.toList.map a1.eval).toArray=c.args.map a1.eval:=by rw [<-Array.toList_map]
   rw [e]at this
   exact this.mono fun e w''⟨he,hw⟩=>⟨_,he,rfl,hw⟩
  ·rintro v w' ⟨rfl,hw⟩
   have hq:=r1.st.hp.old
   have hW:∀u∈U,∀b∈u.1,F1 b:=fun u hu b hb=>by
    obtain⟨x,xb,hy⟩:=hZ u hu
    obtain⟨j,hj,rfl⟩:=zpi xb
    obtain⟨v',_,hr⟩:=hx j _ (zqc hj)
    cases hxx:args[j]with
    |c d=>
     rw [hxx]at hy hr
     simp only [AT.cells,zpa]at hy
     subst hy
     exact SP.mem hr b hb
    |agg zs=>
     rw [hxx]at hy hr
     obtain⟨xd,g1,g2,g3⟩:=hr
     obtain⟨i,hi,he⟩:=zpi hy
     obtain⟨u',_,_,hN⟩:=g3 i _ (zqc hi)
     rw [he]at hN
     exact SP.mem hN b hb
   have ha:fW m1 (toH hJ) m1 (toH h'):=fun r'=>by
    rcases Ap hh r' with⟨g1,g2⟩|⟨hf,ab,g1,g2,g3⟩|⟨g1,g2⟩
    ·exact⟨fun hx=>(by rw [g2]at hx;cases hx),fun ab hx=>(by rw [g2]at hx;cases hx)⟩
    ·refine⟨fun hx=>(by rw [g2]at hx;cases hx),fun xc hx=> ?_⟩
     rw [g2]at hx
     cases hx
     exact .inr ⟨hf,g1,g3.2.1,g3.2.2.1,rfl⟩
    ·exact⟨fun _=>g1,fun ab hx=>(by rw [g2]at hx;cases hx)⟩
   have live:∀(r':Nat)(hf:AB),(toH h')[r']? =some (.live hf)->∃ab,(toH hJ)[r']? =some (.live ab)/\Io U hf ab:=fun r' hf hx=>by
    rcases Ap hh r' with⟨g1,g2⟩|⟨hI,ab,g1,g2,g3⟩|⟨g1,g2⟩
    ·rw [g1]at hx;cases hx
    ·rw [g1]at hx;cases hx;exact⟨ab,g2,g3⟩
    ·rw [g1]at hx;cases hx
   have hH:=r1.st.hp
   have hV:RH F1 w' m1 (toH h'):=by
    refine⟨fun r' hf hx=> ?_,fun hP hQ hI hT b c1 c2 e1 e2 e3 e4=> ?_,?_,fun b hb=>zpu (hq b hb) hw.size,zpb hH.lo hw.size⟩
    ·obtain⟨ab,g1,g2,g3,g4,g5⟩:=live r' hf hx
     rcases hH.at_ r' ab g1 with⟨q1,q2⟩|⟨b,cap,q1,q2,cur,q3,q4,q5,q6,q7⟩
     ·exact .inl ⟨q1,by rw [g4];exact q2⟩
     ·refine .inr ⟨b,cap,q1,q2,cur,?_,by rw [g3];exact q4,by rw [g4];exact q5,q6,fun i x' hO=> ?_⟩
      ·rw [hw.blk b (zpj.1 q3).1 (fun u hu hb=>q2 (hW u hu b hb)),g2];exact q3
      ·have hK:i<ab.es.length:=by rw [<-g4];exact(zqb.1 hO).1
       obtain⟨g6,g7⟩:=g5 i x' _ hO (zqc hK)
       obtain⟨q8,q9⟩:=q7 i _ (zqc hK)
       refine⟨by rw [g6,g3];exact q8,fun j c' hj=> ?_⟩
       have hL:j<(ab.es[i]).length:=by rw [<-g6];exact(zqb.1 hj).1
       obtain⟨u,hu,hd,h8⟩:=q9 j _ (zqc hL)
       exact⟨u,by rw [g3];exact hu,hd,sfC.rc hq hw ha (g7 j c' _ hj (zqc hL)) h8⟩
    ·obtain⟨hR,g1,_⟩:=live hP hI e1
     obtain⟨hS,g2,_⟩:=live hQ hT e2
     exact hH.inj hP hQ hR hS b c1 c2 g1 g2 e3 e4
    ·rw [hH.len];simp [toH,(CR hh).1]
   have xa:gD F1 w0 m0 h0 w' m1 (toH h'):=⟨hV,r1.st.keeps.trans ha,hw.os.trans r1.st.os,hw.tape.trans r1.st.tape,hw.output.trans r1.st.output,zpb r1.st.size hw.size,fun b hb hF hx=>by
     rw [hw.blk b (zpu hb r1.st.size) (fun u hu hX=>hx (h5 u hu b hX))]
     exact r1.st.blk b hb hF hx,fun r' hf b c' h1 h2=>by
     obtain⟨ab,g1,_⟩:=live r' hf h1
     exact r1.st.own r' ab b c' g1 h2,fun b cur ty hF hc=>by
     obtain⟨hA,h1,h2⟩:=r1.st.szx b cur ty hF hc
     obtain⟨hB,h3,h4⟩:=hw.sz b hA ty h1
     exact⟨hB,h3,h4.trans h2⟩⟩
   have r2:Rel F1 w0 m0 h0 N (lkT (s9 l' o.dst (.t (.c (.imm v))))) (toH h') (a1.put o.dst v) w' m1:=by
    rw [<-uQ]
    exact⟨RTm.put (by rw [r1.sz];exact zqf.1 hg o ho) (fun d=>sfV.rv hq hw ha (CQ hk d) (r1.tm d)) rfl,xa,by rw [eV];exact r1.df,by rw [gL];exact r1.sz⟩
   exact iK hok.1 l2 F1 _ _ _ _ _ hM (zqf.2 fun o' hd=>zqf.1 hg o' (hM o' hd)) hU r2 (cj hfit (ops:=os.toArray) _ 0 _ _ hG))
  (os.take k) F _ _ a w m ht (zqf.2 fun o' hd=>zqf.1 hg o' (ht o' hd)) (fJ.refl _ _ _ _) r h9
 rw [<-hsplit]at hz
 exact hz
theorem oS{β:BP}{n0:Nat}{g:Gd}{hd:HF}(hg:g=G0 P n0 N)(hhd:hd=hd0 P n0 N)(hfit:fL P tab){id:Nat}(k:Nat)(hok:gg N os.toArray=true){h:EH}
  (hp:∀mk:List Oper->(List (Nat×AV)->EH->Prop)->Oper->List Oper->List (Nat×AV)->EH->Prop,mk=MkC P tab N g->match os.drop k with| []=>False|o::l2=>lz g tab os (mk os (fun l h=>Q .normal l h) o l2) (os.take k) 0 l h):hd (.region id os.toArray false) Q l h:=by
 subst hg hhd
 have:=hp _ rfl
 split at this
 ·exact this.elim
 ·rename_i o l2 he
  exact Hb hfit k o l2 (by rw [<-he,List.take_append_drop]) hok this
end
def HA(p:Nat):AC->AC
 | .view xs=> .old p xs
 |c=>c
theorem I5{p:Nat}{c:AC}{v:Value}(hd:dat c=true)(h:RC (fun b=>b<p) w [] [] c v):RC (fun b=>b<p) w [] [] (HA p c) v:=by
 cases c<;>first|exact h|exact RP.ext (fun b hb=>⟨hb,hb⟩) (fun _ _=>rfl) h|cases hd
theorem IW{p:Nat}{xs:List AC}{v:Value}(hd:xs.all dat=true)(h:RT (fun b=>b<p) w [] [] (.agg xs) v):RT (fun b=>b<p) w [] [] (.agg (xs.map (HA p))) v:=by
 obtain⟨vs,h1,h2,h3⟩:=h
 refine⟨vs,h1,by simpa using h2,fun j x hj=> ?_⟩
 simp only [zqi,zqj]at hj
 obtain⟨y,hy,rfl⟩:=hj
 obtain⟨u,hu,ho,hr⟩:=h3 j y hy
 exact⟨u,hu,ho,I5 (zqf.1 hd y (zqd hy)) hr⟩
def K5(P:Program)(rs:List ResultVar):Exit->(Nat->AV)->AH->Prop
 | .normal,T,h=>rsL P T h rs fun xs=>xs=[.c (.imm (.bool true))]
 | .ret,T,h=>rsL P T h rs fun xs=>xs=[.c (.imm (.bool true))]
 |_,_,_=>False
section
variable {P:Program}{tab:List (TypeId × TI)}
theorem Fc{β:BP}{f:FuncId}{fn:Func}{c:Code}{args:List AT}(hf:P.funcs[f]? =some fn)(hb:fn.body=some c)(hnm:(fn.name== "runtime.NumGoroutine")=false)(hn:args.length<=fn.ntmps){w:World}(hw:w.heap.size=BP.lo)(hex:∀b,BP.ex b->BP.lo<=b)
  (hvc:VC P 0 fn.ntmps c (K5 P fn.results.toList) (T0 args) []) {vs:List Value} (hl:vs.length=args.length) (ha:∀(j:Nat)(x:AT),args[j]? =some x->∃v,vs[j]? =some v/\RT (fun b=>b<w.heap.size) w [] [] x v):
  Calls P f vs.toArray w fun e w'=>e= .returned (.bool true)/\Below w.heap.size w w':=by
 refine calls_of_wp hf hb ?_
 have hk:vs.toArray.size=args.length:=by simpa using hl
 have hH:RH (fun b=>b<w.heap.size) w [] []:=RH.empty (fun _ h=>h) (by omega)
 have he:Rel (fun b=>b<w.heap.size) w [] [] fn.ntmps (T0 args) [] {tmps:=vs.toArray++Array.replicate (fn.ntmps-vs.toArray.size) undef,defers:=[]} w []:=by
  refine⟨fun d=> ?_,(dI.refl hH).x,rfl,by simp [hl];omega⟩
  unfold T0
  cases hd:args[d]? with
  |some x=>
   obtain⟨v,hv,hr⟩:=ha d x hd
   have hh:d<vs.length:=(zqb.1 hv).1
   have:(vs.toArray++Array.replicate (fn.ntmps-vs.toArray.size) undef).getD d undef=v:=by
    rw [Array.getD_eq_getD_getElem?,Array.getElem?_append_left (by simpa using hh)]
    simp [hv]
   rw [this]
   exact hr
  |none=>
   have hi:vs.length<=d:=by rw [hl];exact List.getElem?_eq_none_iff.1 hd
   have:(vs.toArray++Array.replicate (fn.ntmps-vs.toArray.size) undef).getD d undef=undef:=by
    rw [Array.getD_eq_getD_getElem?,Array.getElem?_append_right (by simpa using hi),Array.getElem?_replicate]
    split<;>rfl
   rw [this]
   rfl
 refine Code.wp_mono (fun e a' w'⟨T',h',m',F1,hq,hG,r⟩=> ?_) (hvc (fun b=>b<w.heap.size) w [] [] _ w [] rfl he)
 have hg:rsL P T' h' fn.results.toList (fun xs=>xs=[.c (.B true)])->a'.defers=[]/\∃v,(results fn a'.tmps).run P w'= .ok v w'/\Ending.returned v= .returned (.bool true)/\Below w.heap.size w w':=fun hq=>by
  obtain⟨xs,v,hc,hr,hj⟩:=iy r.tm r.st.hp hq
  subst hc
  have:v= .bool true:=hj
  subst this
  exact⟨r.df,_,hr,rfl,r.st.os,r.st.tape,r.st.output,r.st.size,fun b hb=>r.st.blk b hb (fun r0 ab c hx=>by simp at hx) (fun hx=>by have:=hex b hx;omega)⟩
 cases e with
 |normal=>exact hg hq
 |ret=>exact hg hq
 |exit id=>exact hq.elim
 |goto l=>exact hq.elim
 |panic c=>exact hq.elim
 |outgrown=>exact hq.elim
end
def Ko [BP](P:Program)(f:FuncId)(h:AH)(args:List AT)(Post:AV->AH->Prop):Prop:=lr P f=true/\
 ∀(F:Nat->Prop)(w:World)(m:AM)(vs:List Value),RH F w m h->vs.length=args.length->(∀(j:Nat)(x:AT),args[j]? =some x->∃v,vs[j]? =some v/\RT F w m h x v)->
  Calls P f vs.toArray w fun e w'=>∃v res h' m' F',e= .returned v/\Post res h'/\gD F' w m h w' m' h'/\RV F' w' m' h' res v
theorem Cm{β:BP}{fn:Func}{c:Code}{Post:AV->AH->Prop}(hf:P.funcs[f]? =some fn)(hb:fn.body=some c)(hnm:(fn.name== "runtime.NumGoroutine")=false)(hn:args.length<=fn.ntmps)
  (hv:VC P h.length fn.ntmps c (KT P h.length fn.results.toList Post) (T0 args) h):Ko P f h args Post:=by
 refine⟨by unfold lr;rw [hf];simp [hnm,hb],fun F w m vs hH hl ha=> ?_⟩
 refine calls_of_wp hf hb ?_
 have ho:vs.toArray.size=args.length:=by simpa using hl
 have hg:Rel F w m h fn.ntmps (T0 args) h {tmps:=vs.toArray++Array.replicate (fn.ntmps-vs.toArray.size) undef,defers:=[]} w m:=by
  refine⟨fun d=> ?_,(dI.refl hH).x,rfl,by simp [hl];omega⟩
  unfold T0
  cases hd:args[d]? with
  |some x=>
   obtain⟨v,hv,hr⟩:=ha d x hd
   have hk:d<vs.length:=(zqb.1 hv).1
   have:(vs.toArray++Array.replicate (fn.ntmps-vs.toArray.size) undef).getD d undef=v:=by
    rw [Array.getD_eq_getD_getElem?,Array.getElem?_append_left (by simpa using hk)]
    simp [hv]
   rw [this]
   exact hr
  |none=>
   have hm:vs.length<=d:=by rw [hl];exact List.getElem?_eq_none_iff.1 hd
   have:(vs.toArray++Array.replicate (fn.ntmps-vs.toArray.size) undef).getD d undef=undef:=by
    rw [Array.getD_eq_getD_getElem?,Array.getElem?_append_right (by simpa using hm),Array.getElem?_replicate]
    split<;>rfl
   rw [this]
   rfl
 refine Code.wp_mono (fun e a' w'⟨T',h',m',F1,hq,hG,r⟩=> ?_) (hv F w m h _ w m rfl hg)
 have hj:rsL P T' h' fn.results.toList (fun xs=>(∃res' h'' ρ,Wk h.length (fun _=>mkV xs) h' [(0,res')] h'' ρ/\Post res' h'')\/(h.length=0/\∃ys,qO h' xs ys/\Post (mkV ys) []))->a'.defers=[]/\∃v,(results fn a'.tmps).run P w'= .ok v w'/\∃v_1 res h' m' F',Ending.returned v= .returned v_1/\Post res h'/\gD F' w m h w' m' h'/\RV F' w' m' h' res v_1:=by
  intro hq
  obtain⟨xs,v,hc,hr,hi⟩:=iy r.tm r.st.hp hq
  rcases hc with⟨res',h'',ρ,hw,hp⟩|⟨h0,ys,hres,hp⟩
  ·obtain⟨h1,h2,h3,h4,h5⟩:=hw
   refine⟨r.df,v,hr,v,res',h'',_,F1,rfl,hp,r.st.rn rfl h1 h2 h3 h4,RV.rn r.st.hp h4 hi ?_⟩
   unfold rnK at h5
   exact h5.1
  ·have hh:h=[]:=zqv h0
   subst hh
   have he:∀b,s7 F1 m' h' b->b<w'.heap.size:=fun b hb=>by
    rcases hb with hb|⟨r0,ab,c,g1,g2⟩
    ·exact r.st.hp.old b hb
    ·exact(r.st.hp.lt g1 g2).2
   exact⟨r.df,v,hr,v,mkV ys,[],[],s7 F1 m' h',rfl,hp,⟨RH.empty he r.st.hp.lo,fun r0=>⟨fun hx=>by simp at hx,fun ab hx=>by simp at hx⟩,r.st.os,r.st.tape,r.st.output,r.st.size,r.st.blk,fun r0 ab b c hx=>(by simp at hx),r.st.szx⟩,qO.rv r.st.hp hres hi⟩
 cases e with
 |normal=>exact hj hq
 |ret=>exact hj hq
 |exit id=>exact hq.elim
 |goto l=>exact hq.elim
 |panic c=>exact hq.elim
 |outgrown=>exact hq.elim
section
variable {P:Program}{tab:List (TypeId × TI)}
theorem yt{β:BP}(ets:ET)(lts:LT){f:FuncId}{fn:Func}{c:Code}{args:List AT}{Post:AV->AH->Prop}{h:EH}(hfit:fL P tab)(hf:P.funcs[f]? =some fn)(hb:fn.body=some c)(hnm:(fn.name== "runtime.NumGoroutine")=false)(hn:args.length<=fn.ntmps)
  (hok:dh ets lts fn.ntmps c=true) (hv:∀(g:Gd)(eff:EF)(hd:HF)(F:List AT->EH->Prop),eff=Ci P->hd=hd0 P (toH h).length fn.ntmps->g=G0 P (toH h).length fn.ntmps->F=lv (toH h).length Post->jM ets lts eff hd g tab c (zF tab fn.results.toList F) (sV args 0) h):Ko P f (toH h) args Post:=by
 refine Cm hf hb hnm hn (jI (T':=lkT (sV args 0)) (fun d=> ?_) (fD (fun e T h hq=> ?_) (dd hfit c _ _ h hok (hv _ _ _ _ rfl rfl rfl rfl))))
 ·rcases nH args 0 d with h1|⟨x,h1,h2,h3⟩
  ·exact .inl h1
  ·refine .inr ?_
   rw [h3]
   simp only [Nat.sub_zero]at h1
   simp only [T0,h1]
 ·obtain⟨l,eh,rfl,rfl,hq⟩:=hq
  cases e<;>first
   |exact hq.elim
   |exact fN hfit _ _ hq
end
def ip:AC->Bool
 | .imm _=>true
 | .fv _ _=>true
 |_=>false
section
variable {F:Nat->Prop}{w:World}
theorem SPL.split{b:Nat}:∀{cs:List AC}{bs:List Nat}{o:Nat},SPL F w bs b o cs->cs.all dat=true->∃es:List AC,es.map vwC=cs/\fpL es=bs/\es.all ip=true/\∀(j:Nat)(c:AC),es[j]? =some c->∃u,w.cell? ⟨b,o+j,none⟩=some u/\one u=true/\SP F w (fpC c) (vwC c) u
 | [],bs,o,h,_=>by unfold SPL at h;subst h;exact⟨[],rfl,rfl,rfl,fun j c hj=>by simp at hj⟩
 |c::cs,bs,o,h,hd=>by
  unfold SPL at h
  obtain⟨b1,b2,rfl,⟨u,hu,h1,hc⟩,h2⟩:=h
  simp only [zqD,zqs]at hd
  obtain⟨es,e1,e2,e3,e4⟩:=SPL.split h2 hd.2
  obtain⟨c',g1,g2,g3⟩:∃c',vwC c'=c/\fpC c'=b1/\ip c'=true:=by
   cases c<;>first|cases hd.1|skip
   ·rename_i v;unfold SP at hc;exact⟨.imm v,rfl,hc.2.symm,rfl⟩
   ·rename_i xs;exact⟨.fv b1 xs,rfl,rfl,rfl⟩
  refine⟨c'::es,by simp [g1,e1],by show fpL (c'::es)=_;simp only [fpL,List.flatMap_cons]at e2⊢;rw [g2,e2],by simp [g3,e3],fun j d hj=> ?_⟩
  cases j with
  |zero=>simp at hj;subst hj;exact⟨u,hu,h1,by rw [g1,g2];exact hc⟩
  |succ j=>
   have:=e4 j d (by simpa using hj)
   rwa [show o+1+j=o+(j+1) by omega]at this
theorem SPE.split{b k:Nat}:∀{xs:LLA}{bs:List Nat}{o:Nat},SPE F w bs b k o xs->(∀x∈xs,x.all dat=true)->∃es:LLA,es.map (·.map vwC)=xs/\fpE es=bs/\(∀e∈es,e.all ip=true)/\∀(i:Nat)(x:List AC),es[i]? =some x->x.length=k/\∀(j:Nat)(c:AC),x[j]? =some c->∃u,w.cell? ⟨b,o+(i*k+j),none⟩=some u/\one u=true/\SP F w (fpC c) (vwC c) u
 | [],bs,o,h,_=>by unfold SPE at h;subst h;exact⟨[],rfl,rfl,by simp,fun j c hj=>by simp at hj⟩
 |x::xs,bs,o,h,hd=>by
  unfold SPE at h
  obtain⟨b1,b2,rfl,h1,h2,h3⟩:=h
  obtain⟨e,a1,a2,a3,a4⟩:=SPL.split h2 (hd x (by simp))
  obtain⟨es,e1,e2,e3,e4⟩:=SPE.split h3 (fun y hy=>hd y (by simp [hy]))
  refine⟨e::es,by simp [a1,e1],by show fpE (e::es)=_;simp only [fpE,List.flatMap_cons]at e2⊢;rw [a2,e2],fun y hy=> ?_,fun i y hi=> ?_⟩
  ·rcases zph.1 hy with rfl|hy
   ·exact a3
   ·exact e3 y hy
  ·cases i with
   |zero=>
    simp at hi
    subst hi
    refine⟨by rw [<-h1,<-a1];simp,fun j c hj=> ?_⟩
    have:=a4 j c hj
    simpa using this
   |succ i=>
    obtain⟨q1,q2⟩:=e4 i y (by simpa using hi)
    refine⟨q1,fun j c hj=> ?_⟩
    have:=q2 j c hj
    rwa [show o+k+(i*k+j)=o+((i+1)*k+j) by rw [Nat.add_mul];omega]at this
end
variable {bs:List Nat}{k0 r:Int}
theorem xW{k:Nat}{xs xs':LLA}(hf:lr P f=true)(hne:xs≠[])(hk:∀x∈xs,x.length=k)(hd:∀x∈xs,x.all dat=true)(hnd:bs.Nodup)(hlen:xs'.length=xs.length)
  (hc:∀(bs':List Nat)(ty:TypeId)(es:LLA),(∀b∈bs',b∈bs)->bs'.Nodup->es.map (·.map vwC)=xs->fpE es=bs'->(∀e∈es,e.all ip=true)->(∀e∈es,e.length=k)->
   @Ko ⟨0,fun b=>b∈bs'⟩ P f [.live ⟨ty,k,es⟩] [.c (.own 0),.c (.J k0)] fun res h'=>res= .t (.c (.J r))/\∃es',h'=[.live ⟨ty,k,es'⟩]/\es'.map (·.map vwC)=xs'/\fpE es'=bs'/\∀e∈es',e.all ip=true):
  Er P f [.c (.fv bs xs),.c (.J k0)] [(bs,xs,xs')] (.int .i64 r):=by
 refine⟨hf,fun F w vs hF hl ha=> ?_⟩
 obtain⟨v,hv,h3⟩:=ha 0 _ rfl
 obtain⟨u,hu,hZ⟩:=ha 1 _ rfl
 have hM:SP F w bs (.view xs) v:=h3
 have h0:u= .int .i64 k0:=hZ
 subst h0
 obtain rfl:vs=[v,.int .i64 k0]:=by
  match vs,hl with
  | [a,b],_=>simp at hv hu;rw [hv,hu]
 unfold SP at hM
 obtain⟨p,cap,rfl,g1,g2,g3⟩:=hM
 rcases g3 with⟨g3,_⟩|⟨b,k',bs',cur,ty,rfl,rfl,hFb,hcell,hsz,hE⟩
 ·exact(hne g3).elim
 obtain⟨hY,hD⟩:=List.nodup_cons.1 hnd
 obtain⟨es,e1,e2,e3,e4⟩:=SPE.split hE hd
 have hW:k'=k:=by
  cases xs with
  |nil=>exact(hne rfl).elim
  |cons x0 xs0=>unfold SPE at hE;obtain⟨_,_,_,q,_⟩:=hE;rw [<-q];exact hk x0 (by simp)
 subst hW
 have hz:∀b'∈bs',F b':=SPE.mem hE
 have hL:es.length=xs.length:=by rw [<-e1];simp
 have hG:∀e∈es,e.length=k':=fun e he=>by obtain⟨i,hi,rfl⟩:=zpi he;exact(e4 i _ (zqc hi)).1
 have hT:=hc bs' ty es (fun b' hh=>zpe _ hh) hD e1 e2 e3 hG
 let β:BP:=⟨0,fun b=>b∈bs'⟩
 have hH: @RH β (fun b'=>F b'/\b'≠b) w [some (b,cap)] [.live ⟨ty,k',es⟩]:=by
  refine⟨fun r0 ab hr=> ?_,fun r1 r2 hO hP b0 c1 c2 h1 h2 _ _=> ?_,rfl,fun b' hh=>hF b' hh.1,zpn _⟩
  ·cases r0 with
   |succ r0=>simp at hr
   |zero=>
    simp only [zqw,zqy,AE.live.injEq]at hr
    subst hr
    refine .inr ⟨b,cap,rfl,fun hx=>hx.2 rfl,cur,hcell,hsz,by rw [hL];exact g1,g2,fun i x hx=> ?_⟩
    obtain⟨q1,q2⟩:=e4 i x hx
    refine⟨q1,fun j c hj=> ?_⟩
    obtain⟨u,q3,q4,q5⟩:=q2 j c hj
    have hR:=zqf.1 (e3 x (zqd hx)) c (zqd hj)
    refine⟨u,?_,q4,?_⟩
    ·have:w.cell? ⟨b,0+(i*k'+j),none⟩=cur[i*k'+j]? :=by simp [World.cell?,hcell]
     rw [<-this];exact q3
    ·have hB:∀b'∈fpC c,b'∈bs':=fun b' hh=>by
      rw [<-e2]
      exact List.mem_flatMap.2 ⟨x,zqd hx,List.mem_flatMap.2 ⟨c,zqd hj,hh⟩⟩
     cases c<;>first|cases hR|skip
     ·unfold SP at q5;exact q5.1
     ·exact SP.ext (fun b' hh hw=>⟨hw,fun he=>hY (he▸hB b' hh)⟩) (fun _ _ _=>rfl) q5
  ·have e:∀(r0:Nat)(ab:AB),[AE.live ⟨ty,k',es⟩][r0]? =some (.live ab)->r0=0:=fun r0 ab h=>by
    cases r0 with
    |zero=>rfl
    |succ r0=>simp at h
   rw [e r1 hO h1,e r2 hP h2]
 have:=hT.2 (fun b'=>F b'/\b'≠b) w [some (b,cap)] [.slice (some ⟨b,0,none⟩) xs.length cap,.int .i64 k0] hH rfl (fun j x hj=>by
  match j,hj with
  |0,hj=>
   simp at hj
   subst hj
   exact⟨_,rfl,.inr ⟨_,rfl,.inl ⟨b,cap,rfl,by rw [hL]⟩⟩⟩
  |1,hj=>simp at hj;subst hj;exact⟨_,rfl,rfl⟩)
 refine this.mono fun e w'⟨v',res,h',m',F',he,⟨hres,es',hh',hx',hfp',hh⟩,hs,hv'⟩=> ?_
 subst hres hh'
 have hI:v'= .int .i64 r:=hv'
 subst hI
 refine⟨he,hs.os,hs.tape,hs.output,hs.size,fun b' hQ hK=>hs.blk b' hQ (fun r0 ab c h1 h2=> ?_) (fun hx=> ?_),fun b0 ho hN hA=> ?_,fun u hu vv h4=> ?_⟩
 ·cases r0 with
  |succ r0=>simp at h1
  |zero=>
   simp at h2
   exact hK _ (zpa.2 rfl) (by rw [<-h2.1];simp)
 ·exact hK _ (zpa.2 rfl) (zpe _ hx)
 ·by_cases hbb:b0=b
  ·subst hbb
   rw [hcell]at hA
   obtain⟨rfl,rfl⟩:cur=ho/\ty=hN:=by simpa using hA
   have hC:m'[0]? =some (some (b0,cap)):=by
    rcases(hs.keeps 0).2 _ rfl with hg|⟨ab',h1,_,_,h2⟩
    ·simp at hg
    ·rw [h2];rfl
   obtain⟨_,_,hb,q1,q2,_⟩:=hs.hp.get (r:=0) rfl rfl hC
   have hJ:hb.size=cap*k':=q2
   exact⟨hb,q1,by rw [hJ,hsz]⟩
  ·exact hs.szx b0 ho hN (fun r0 ab c h1 h2=>by
    cases r0 with
    |succ r0=>simp at h1
    |zero=>simp at h2;exact hbb h2.1.symm) hA
 ·simp only [zpa]at hu
  subst hu
  have hU:es'.length=xs.length:=by rw [<-hlen,<-hx'];simp
  have h6:xs'.length≠0:=by rw [hlen];exact fun h=>hne (zqv h)
  obtain⟨m0,h5⟩:∃q,m'[0]? =some q:=by
   have:=hs.hp.len
   exact⟨m'[0]'(by rw [this];simp),zqc _⟩
  have hC:m'[0]? =some (some (b,cap)):=by
   rcases(hs.keeps 0).2 _ rfl with hg|⟨ab',h1,_,_,h2⟩
   ·simp at hg
   ·rw [h2];rfl
  obtain⟨_,hX,hb,q1,q2,q3,q4,q5⟩:=hs.hp.get (r:=0) rfl rfl hC
  show SP F w' (b::bs') (.view xs') vv
  have hq:SP F w (b::bs') (.view xs) vv:=h4
  unfold SP at hq⊢
  obtain⟨p2,ht,rfl,a1,a2,a3⟩:=hq
  rcases a3 with⟨a3,_⟩|⟨b2,k2,bs2,cur2,ty2,ha,rfl,aF,acell,asz,aE⟩
  ·exact(hne a3).elim
  ·obtain⟨rfl,rfl⟩:b=b2/\bs'=bs2:=by simpa using ha
   have hV:k2=k':=by
    cases xs with
    |nil=>exact(hne rfl).elim
    |cons x0 xs0=>unfold SPE at aE;obtain⟨_,_,_,q,_⟩:=aE;rw [<-q];exact hk x0 (by simp)
   subst hV
   rw [hcell]at acell
   obtain⟨rfl,rfl⟩:cur=cur2/\ty=ty2:=by simpa using acell
   refine⟨_,ht,by rw [hlen],by rw [hlen];exact a1,a2,.inr ⟨b,k2,bs',hb,ty,rfl,rfl,aF,q1,?_,?_⟩⟩
   ·have hJ:hb.size=cap*k2:=q2
    rw [hJ,<-hsz,asz]
   ·rw [<-hx',<-hfp']
    refine SPE.mk (fun i y hy=> ?_)
    obtain⟨z1,z2⟩:=q5 i y hy
    refine⟨z1,SPL.mk (fun j d hj=> ?_)⟩
    obtain⟨u,z3,z4,z5⟩:=z2 j d hj
    have hS:=zqf.1 (hh y (zqd hy)) d (zqd hj)
    refine⟨u,by simp [World.cell?,q1];exact z3,z4,?_⟩
    have hB:∀hn∈fpC d,hn∈bs':=fun hn hm=>by
     rw [<-hfp']
     exact List.mem_flatMap.2 ⟨y,zqd hy,List.mem_flatMap.2 ⟨d,zqd hj,hm⟩⟩
    cases d<;>first|cases hS|skip
    ·show SP F w' [] _ u
     unfold SP
     exact⟨z5,rfl⟩
    ·exact SP.ext (fun hn hm _=>hz hn (hB hn hm)) (fun _ _ _=>rfl) z5
theorem wk(hc:bS P f [.c (.view []),.c (.J k0)] fun res hf=>res= .t (.c (.J r))/\hf=[]):Er P f [.c (.fv bs []),.c (.J k0)] [(bs,[],[])] (.int .i64 r):=by
 refine⟨hc.1,fun F w vs hd hl ha=> ?_⟩
 have:=hc.2 F w [] vs (RH.empty hd (zpn _)) hl (fun j x hj=>by
  match j,hj with
  |0,hj=>
   simp at hj
   subst hj
   obtain⟨v,hv,hr⟩:=ha 0 _ rfl
   exact⟨v,hv,SP.rp hr⟩
  |1,hj=>simp at hj;subst hj;exact ha 1 _ rfl)
 refine this.mono fun e w'⟨v,res,h',m',F',he,⟨hf,hh,hres,hrows⟩,hG,hs,hv⟩=> ?_
 subst hres hrows
 have hi:v= .int .i64 r:=by subst hh;exact hv
 subst hi
 refine⟨he,hs.os,hs.tape,hs.output,hs.size,fun b hb _=>hs.blk b hb (fun r ab c h=>by simp at h),fun b cur ty hg=>⟨cur,by rw [hs.blk b (zpj.1 hg).1 (fun r ab c h=>by simp at h)];exact hg,rfl⟩,fun u hu vv hk=> ?_⟩
 simp only [zpa]at hu
 subst hu
 exact SP.ext (fun _ _ h=>h) (fun b _ hb=>hs.blk b (hd b hb) (fun r ab c h=>by simp at h)) hk
theorem RH.bp{β β':BP}{F:Nat->Prop}{m:AM}(hH: @RH β F w m h)(hl:β'.lo<=w.heap.size): @RH β' F w m h:=by
 obtain⟨h1,h2,h3,h4,_⟩:=hH
 exact⟨h1,h2,h3,h4,hl⟩
theorem dI.bp{β β':BP}{F:Nat->Prop}{w w':World}{m m':AM}{h h':AH}(hs: @dI β F w m h w' m' h')(hl:β'.lo<=w'.heap.size): @gD β' F w m h w' m' h':=by
 obtain⟨h1,h2,h3,h4,h5,h6,h7,h8⟩:=hs
 exact⟨h1.bp hl,h2,h3,h4,h5,h6,fun b a1 a2 _=>h7 b a1 a2,h8,fun b cur ty hn hc=>⟨cur,by rw [h7 b (zpj.1 hc).1 hn];exact hc,rfl⟩⟩
theorem xX{k:Nat}{xs xs':LLA}(hf:lr P f=true)(hne:xs≠[])(hk:∀x∈xs,x.length=k)(hi:qd xs=true)(hi':qd xs'=true)(hnd:bs.Nodup)(hlen:xs'.length=xs.length)
  (hc:∀ty:TypeId,Con P f (toH [.rw ⟨ty,k,xs⟩]) [.c (.own 0),.c (.J k0)] fun res h'=>∃eh,toH eh=h'/\(res= .t (.c (.J r))/\eh=[.rw ⟨ty,k,xs'⟩])):
  Er P f [.c (.fv bs xs),.c (.J k0)] [(bs,xs,xs')] (.int .i64 r):=by
 have hd:∀{ys:LLA},qd ys=true->∀y∈ys,∀c∈y,∃u,c= .imm u:=fun h y hy c hc=>by
  unfold qd at h
  have:=zqf.1 (zqf.1 h y hy) c hc
  cases c<;>first|exact⟨_,rfl⟩|cases this
 have hj:∀x∈xs,x.all dat=true:=fun x hx=>zqf.2 fun c hc=>by obtain⟨u,rfl⟩:=hd hi x hx c hc;rfl
 refine xW hf hne hk hj hnd hlen fun ho ty es hn hp h1 h2 h3 h4=> ?_
 have hm:es=xs:=by
  rw [<-h1]
  refine((zpl (g:=id) fun x hx=> ?_).trans (List.map_id es)).symm
  refine(zpl (g:=id) fun c hc=> ?_).trans (List.map_id x)
  have hb:=zqf.1 (h3 x hx) c hc
  have:vwC c∈x.map vwC:=List.mem_map.2 ⟨c,hc,rfl⟩
  obtain⟨u,hu⟩:=hd hi (x.map vwC) (by rw [<-h1];exact List.mem_map.2 ⟨x,hx,rfl⟩) _ this
  cases c<;>first|rfl|(simp [vwC]at hu;done)|cases hb
 subst hm
 have hg:∀{ys:LLA},qd ys=true->fpE ys=[]:=fun h=>by
  unfold fpE
  rw [List.flatMap_eq_nil_iff]
  intro y hy
  unfold fpL
  rw [List.flatMap_eq_nil_iff]
  intro c hc
  obtain⟨u,rfl⟩:=hd h y hy c hc
  rfl
 rw [hg hi]at h2
 subst h2
 have:=hc ty
 refine⟨this.1,fun F w m vs hH hl ha=> ?_⟩
 refine(this.2 F w m vs (hH.bp (zpn _)) hl ha).mono fun e w'⟨v,res,h',m',F',he,⟨eh,hh,hres,heh⟩,_,hs,hv⟩=> ?_
 subst heh hh
 refine⟨v,res,_,m',F',he,⟨hres,xs',rfl,?_,hg hi',fun e he=>zqf.2 fun c hc=>by obtain⟨u,rfl⟩:=hd hi' e he c hc;rfl⟩,hs.bp (zpn _),hv⟩
 refine(zpl (g:=id) fun x hx=> ?_).trans (List.map_id xs')
 refine(zpl (g:=id) fun c hc=> ?_).trans (List.map_id x)
 obtain⟨u,rfl⟩:=hd hi' x hx c hc
 rfl
theorem Dk{U:MU}{r:Value}(hU:∀u∈U,(∃k:Nat,(∀x∈u.2.1,x.length=k)/\∀x∈u.2.2,x.length=k)/\u.2.2.length=u.2.1.length)
  (hc: @Ko ⟨0,fun b=>∃u∈U,b∈u.1⟩ P f [] args fun res h'=>res= .t (.c (.imm r))/\∀u∈U,∃(r0:Nat)(ab:AB)(i:Nat)(x:List AC)(j:Nat),h'[r0]? =some (.live ab)/\ab.es[i]? =some x/\x[j]? =some (.fv u.1 u.2.2)):Er P f args U r:=by
 refine⟨hc.1,fun F w vs hi hl ha=> ?_⟩
 let β:BP:=⟨0,fun b=>∃u∈U,b∈u.1⟩
 have hH: @RH β F w [] []:=RH.empty hi (zpn _)
 refine(hc.2 F w [] vs hH hl ha).mono fun e w'⟨v,res,h',m',F',he,⟨hres,hcells⟩,hs,hv⟩=> ?_
 subst hres
 have hq:v=r:=hv
 subst hq
 refine⟨he,hs.os,hs.tape,hs.output,hs.size,fun b hb hu=>hs.blk b hb (fun r0 ab c h=>by simp at h) (fun⟨u,h1,h2⟩=>hu u h1 h2),fun b cur ty h=>hs.szx b cur ty (fun r0 ab c h=>by simp at h) h,fun u hu vv hf=> ?_⟩
 obtain⟨r0,ab,i,x,j,h1,h2,h3⟩:=hcells u hu
 obtain⟨⟨k,hk,hm⟩,hd⟩:=hU u hu
 have hz:∃z,SP F' w' u.1 (.view u.2.2) z:=by
  rcases hs.hp.at_ r0 ab h1 with⟨_,h4⟩|⟨b,c,_,_,hB⟩
  ·have:=(zqb.1 h2).1;omega
  ·obtain⟨z,_,_,hz⟩:=hB.cell h2 j _ h3
   exact⟨z,hz⟩
 obtain⟨z,hz⟩:=hz
 have hF:=SP.mem hf
 obtain⟨bs,xs,hj⟩:=u
 simp only at hk hm hd hf hz hF⊢
 unfold SP at hf hz⊢
 obtain⟨p,cap,rfl,a1,a2,a3⟩:=hf
 obtain⟨p2,ho,rfl,b1,b2,b3⟩:=hz
 rcases a3 with⟨rfl,rfl⟩|⟨b,k1,bs',cur,ty,rfl,rfl,aF,acell,asz,aE⟩
 ·have:hj=[]:=zqv (by simpa using hd)
  subst this
  exact⟨p,cap,rfl,a1,a2,.inl ⟨rfl,rfl⟩⟩
 ·rcases b3 with⟨_,hb⟩|⟨b',k2,bs2,cur2,ty2,hb,rfl,bF,bcell,bsz,bE⟩
  ·cases hb
  ·obtain⟨rfl,rfl⟩:b=b'/\bs'=bs2:=by simpa using hb
   obtain⟨hg,c1,c2⟩:=hs.szx b cur ty (fun r0 ab c h=>by simp at h) acell
   rw [bcell]at c1
   obtain⟨rfl,rfl⟩:cur2=hg/\ty2=ty:=by simpa using c1
   refine⟨_,cap,by rw [hd],by rw [hd];exact a1,a2,?_⟩
   cases xs with
   |nil=>
    have:hj=[]:=zqv (by simpa using hd)
    subst this
    unfold SPE at aE
    subst aE
    exact .inr ⟨b,k1,[],cur2,ty2,rfl,rfl,aF,bcell,by rw [c2,asz],by unfold SPE;rfl⟩
   |cons x0 xs0=>
    cases hj with
    |nil=>simp at hd
    |cons y0 ys0=>
     have e1:k1=k:=by unfold SPE at aE;obtain⟨_,_,_,q,_⟩:=aE;rw [<-q];exact hk x0 (by simp)
     have e2:k2=k:=by unfold SPE at bE;obtain⟨_,_,_,q,_⟩:=bE;rw [<-q];exact hm y0 (by simp)
     subst e1 e2
     exact .inr ⟨b,k2,bs',cur2,ty2,rfl,rfl,aF,bcell,by rw [c2,asz],SPE.ext (fun hn hh _=>hF hn (zpe _ hh)) (fun _ _ _=>rfl) rfl bE⟩
theorem K8{U:MU}{r:Value}(hF:F=lv 0 (fun res h'=>res= .t (.c (.imm r))/\∀u∈U,∃(r0:Nat)(ab:AB)(i:Nat)(x:List AC)(j:Nat),h'[r0]? =some (.live ab)/\ab.es[i]? =some x/\x[j]? =some (.fv u.1 u.2.2)))
  (q t k:Nat) (x:List AC) (hq:nth eh q=some (.bx t k x)) (hp:x.all dx=true) (hx:∀u∈U,.fv u.1 u.2.2∈x):F [.c (.imm r)] eh:=by
 subst hF
 refine .inl ⟨.t (.c (.imm r)),[.live ⟨t,k,[x]⟩],[some q],wkS [q] (by simp) ⟨⟨⟨t,k,[x]⟩,?_,rfl,by simp [ay,hp]⟩,zpt⟩ ⟨iR (x:= .t (.c (.imm r))) rfl,zpt⟩,rfl,fun u hu=> ?_⟩
 ·exact uV hq
 ·obtain⟨j,hj,he⟩:=zpi (hx u hu)
  exact⟨0,⟨t,k,[x]⟩,0,x,j,rfl,rfl,by rw [zqc hj,he]⟩
section
variable {P:Program}{n0 N:Nat}{g:Gd}
variable {args args':List AT}{K:AV->EH->Prop}{f:FuncId}{h:EH}
theorem JO{β:BP}(hg:g=G0 P n0 N){Post:AV->List AB->Prop}(hc:bS P f args' Post)(ha:qO (toH h) args args')
  (hK:∀res hb,Post res hb->res.fresh=true/\(∀ab∈hb,AB.fresh ab=true)/\∃es:EH,toH es=(hb.map (AB.shift (toH h).length)).map .live/\K (res.shift (toH h).length) (h++es)):g .C f h args K:=
 sT hg ⟨args',Post,hc,.inr ⟨ha.at_.1,fun j x y h1 h2=>(ha.at_.2 j x y h1 h2).imp (fun⟨c,d,a,b,e⟩=>⟨c,d,a,b,.c e⟩) id,fun res hb hp=>hK res hb hp⟩⟩
theorem JN{β:BP}(hg:g=G0 P n0 N){n:Nat}{r0:AV}{rows0:List AB}(hc:bS P f args' fun res hb=>res=r0/\hb=rows0)(ha:qO (toH h) args args')
  (hr:r0.fresh=true) (hrs:∀ab∈rows0,AB.fresh ab=true) (es:EH) (he:toH es=(rows0.map (AB.shift n)).map .live) (hK:K (r0.shift n) es):g .PC f h n args K:=by
 subst hg
 refine⟨r0.shift n,rows0.map (AB.shift n),⟨args',_,hc,.inr ⟨ha.at_.1,fun j x y h1 h2=>(ha.at_.2 j x y h1 h2).imp (fun⟨c,d,a,b,e⟩=>⟨c,d,a,b,.c e⟩) id,fun res hb hp=> ?_⟩⟩,es,he,hK⟩
 obtain⟨rfl,rfl⟩:=hp
 exact⟨hr,hrs,rfl,rfl⟩
theorem yw{β:BP}(hg:g=G0 P n0 N){r:AV}(hc:bS P f args' fun res hb=>res=r/\hb=[])(ha:qO (toH h) args args')(hr:yA r=true)(hK:K r (h++[])):g .C f h args K:=
 JO hg hc ha fun res hb hp=>by
  obtain⟨rfl,rfl⟩:=hp
  exact⟨vq hr,fun ab hd=>by simp at hd,[],rfl,by rw [ea (vp hr)];exact hK⟩
end
end Go.Proofs.YtckchgoblpgpbaaGreat.Am
