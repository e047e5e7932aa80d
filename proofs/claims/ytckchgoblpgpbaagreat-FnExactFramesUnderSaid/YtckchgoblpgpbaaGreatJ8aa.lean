/- A part of AM, a framework of the prover own: functions of any program as maps of data. -/
import Derived.WalkKit
import Derived.ProofKit
import Derived.Lib.Hide
import Derived.StillTail
import Derived.Below
import Derived.Laws.Cells
import Derived.Laws.AppendOwn
import Derived.Laws.MakeOwn
import Derived.Laws.StructEq
import Derived.Laws.Slices
import Derived.Lib.QuietBelow
set_option linter.unusedVariables false
set_option linter.unusedSimpArgs false
namespace Go.Proofs.YtckchgoblpgpbaaGreat
theorem nmE{α:Sort _}(a:α):∃x,x=a:=⟨a,rfl⟩
theorem zpt:True:=trivial
theorem zr1{A0:Type}{a0:A0}:a0=a0/\True:=⟨rfl,trivial⟩
theorem zr2{A0 A1:Type}{a0:A0}{a1:A1}:a0=a0/\a1=a1/\True:=⟨rfl,rfl,trivial⟩
theorem zr3{A0 A1 A2:Type}{a0:A0}{a1:A1}{a2:A2}:a0=a0/\a1=a1/\a2=a2/\True:=⟨rfl,rfl,rfl,trivial⟩
theorem zr4{A0 A1 A2 A3:Type}{a0:A0}{a1:A1}{a2:A2}{a3:A3}:a0=a0/\a1=a1/\a2=a2/\a3=a3/\True:=⟨rfl,rfl,rfl,rfl,trivial⟩
theorem zr5{A0 A1 A2 A3 A4:Type}{a0:A0}{a1:A1}{a2:A2}{a3:A3}{a4:A4}:a0=a0/\a1=a1/\a2=a2/\a3=a3/\a4=a4/\True:=⟨rfl,rfl,rfl,rfl,rfl,trivial⟩
theorem zr6{A0 A1 A2 A3 A4 A5:Type}{a0:A0}{a1:A1}{a2:A2}{a3:A3}{a4:A4}{a5:A5}:a0=a0/\a1=a1/\a2=a2/\a3=a3/\a4=a4/\a5=a5/\True:=⟨rfl,rfl,rfl,rfl,rfl,rfl,trivial⟩
theorem zr7{A0 A1 A2 A3 A4 A5 A6:Type}{a0:A0}{a1:A1}{a2:A2}{a3:A3}{a4:A4}{a5:A5}{a6:A6}:a0=a0/\a1=a1/\a2=a2/\a3=a3/\a4=a4/\a5=a5/\a6=a6/\True:=⟨rfl,rfl,rfl,rfl,rfl,rfl,rfl,trivial⟩
theorem zr8{A0 A1 A2 A3 A4 A5 A6 A7:Type}{a0:A0}{a1:A1}{a2:A2}{a3:A3}{a4:A4}{a5:A5}{a6:A6}{a7:A7}:a0=a0/\a1=a1/\a2=a2/\a3=a3/\a4=a4/\a5=a5/\a6=a6/\a7=a7/\True:=⟨rfl,rfl,rfl,rfl,rfl,rfl,rfl,rfl,trivial⟩
theorem zr9{A0 A1 A2 A3 A4 A5 A6 A7 A8:Type}{a0:A0}{a1:A1}{a2:A2}{a3:A3}{a4:A4}{a5:A5}{a6:A6}{a7:A7}{a8:A8}:a0=a0/\a1=a1/\a2=a2/\a3=a3/\a4=a4/\a5=a5/\a6=a6/\a7=a7/\a8=a8/\True:=⟨rfl,rfl,rfl,rfl,rfl,rfl,rfl,rfl,rfl,trivial⟩
theorem G6{A0 A1 A2 A3 A4 A5 A6 A7 A8 A9 A10:Type}{a0:A0}{a1:A1}{a2:A2}{a3:A3}{a4:A4}{a5:A5}{a6:A6}{a7:A7}{a8:A8}{a9:A9}{a10:A10}:a0=a0/\a1=a1/\a2=a2/\a3=a3/\a4=a4/\a5=a5/\a6=a6/\a7=a7/\a8=a8/\a9=a9/\a10=a10/\True:=⟨rfl,rfl,rfl,rfl,rfl,rfl,rfl,rfl,rfl,rfl,rfl,trivial⟩
abbrev zqa:= @Array.getElem?_setIfInBounds
abbrev zqb:= @List.getElem?_eq_some_iff
abbrev zqc:= @List.getElem?_eq_getElem
abbrev zqd:= @List.mem_of_getElem?
abbrev zqe:= @List.length_append
abbrev zqf:= @List.all_eq_true
abbrev zqg:= @List.getElem?_append_right
abbrev zqh:= @List.getElem?_append_left
abbrev zqi:= @List.getElem?_map
abbrev zqj:= @Option.map_eq_some_iff
abbrev zqk:= @Array.size_setIfInBounds
abbrev zql:= @List.length_map
abbrev zqm:= @List.length_singleton
abbrev zqn:= @Bool.beq_eq_decide_eq
abbrev zqo:= @decide_eq_false_iff_not
abbrev zqp:= @decide_eq_true_eq
abbrev zqq:= @bne_eq_false_iff_eq
abbrev zqr:= @beq_eq_false_iff_ne
abbrev zqs:= @Bool.and_eq_true
abbrev zqt:= @decide_eq_false
abbrev zqu:= @decide_eq_true
abbrev zqv:= @List.eq_nil_of_length_eq_zero
abbrev zqw:= @List.getElem?_cons_zero
abbrev zqx:= @List.length_cons
abbrev zqy:= @Option.some.injEq
abbrev zqz:= @List.getElem?_eq_none
abbrev zqA:= @List.map_cons
abbrev zqB:= @List.length_zip
abbrev zqC:= @List.append_assoc
abbrev zqD:= @List.all_cons
abbrev zpa:= @List.mem_singleton
abbrev zpb:= @Nat.le_trans
abbrev zpc:= @Int.le_refl
abbrev zpd:= @List.mem_cons_self
abbrev zpe:= @List.mem_cons_of_mem
abbrev zpf:= @Nat.mul_le_mul_right
abbrev zph:= @List.mem_cons
abbrev zpi:= @List.getElem_of_mem
abbrev zpj:= @Array.getElem?_eq_some_iff
abbrev zpk:= @Nat.le_refl
abbrev zpl:= @List.map_congr_left
abbrev zpm:= @List.getElem?_set_self
abbrev zpn:= @Nat.zero_le
abbrev zpo:= @List.mem_append_right
abbrev zpp:= @List.getElem?_take
abbrev zpq:= @Nat.not_lt_zero
abbrev zpr:= @List.append_nil
abbrev zpu:= @Nat.lt_of_lt_of_le
abbrev zpv:= @Int.le_trans
abbrev zpw:= @List.length_replicate
abbrev zpx:= @List.mem_append_left
end Go.Proofs.YtckchgoblpgpbaaGreat
namespace Go.Proofs.YtckchgoblpgpbaaGreat.Am
open Go.RowKit
def one:Value->Bool
 | .agg _| .tuple _=>false
 |_=>true
inductive AC where
 |imm (v:Value)
 |view (xs:List (List AC))
 |own (r:Nat)
 |sub (r lo n:Nat)
 |ptr (r i off:Nat)
 |eptr (cs:List AC) (off:Nat)
 |clo (g:Nat) (rs:List Nat)
 |fv (bs:List Nat) (xs:List (List AC))
 |old (p:Nat) (xs:List (List AC))
 |dead
 deriving Inhabited
abbrev AC.J(x:Int):AC:= .imm (.int .i64 x)
abbrev AC.B(x:Bool):AC:= .imm (.bool x)
abbrev AC.N:AC:= .imm (.slice none 0 0)
abbrev LLA:=List (List AC)
inductive AT where
 |c (x:AC)
 |agg (xs:List AC)
 deriving Inhabited
inductive AV where
 |t (x:AT)
 |tup (xs:List AT)
 deriving Inhabited
abbrev AV.i(x:Int):AV:= .t (.c (.J x))
abbrev AV.v(V:LLA):AV:= .t (.c (.view V))
abbrev AV.o(n:Nat):AV:= .t (.c (.own n))
abbrev AV.p(n:Nat):AV:= .t (.c (.ptr n 0 0))
structure AB where
 ty:TypeId
 k:Nat
 es:LLA
inductive AE where
 |live (ab:AB)
 |gone
 |hole
abbrev AH:=List AE
abbrev AM:=List (Option (Nat×Nat))
class BP where
 lo:Nat
 ex:Nat->Prop
@[reducible] def bp0 : BP := ⟨0, fun _ => False⟩
section
variable (F:Nat->Prop)(w:World)
mutual
def RP:AC->Value->Prop
 | .imm u,v=>v=u
 | .view xs,v=>∃p cap,v= .slice p xs.length cap/\xs.length<=cap/\cap<=maxLen/\(xs=[]\/∃b o k,p=some ⟨b,o,none⟩/\F b/\RPE b k o xs)
 | .dead,_=>True
 |_,_=>False
def RPE(b k:Nat):Nat->LLA->Prop
 |_,[]=>True
 |o,x::xs=>x.length=k/\RPL b o x/\RPE b k (o+k) xs
def RPL(b:Nat):Nat->List AC->Prop
 |_,[]=>True
 |o,c::cs=>(∃u,w.cell? ⟨b,o,none⟩=some u/\one u=true/\RP c u)/\RPL b (o+1) cs
end
end
theorem vm{w w':World}{b o:Nat}(h:w'.heap[b]? =w.heap[b]?):w'.cell? ⟨b,o,none⟩=w.cell? ⟨b,o,none⟩:=by
 unfold World.cell?;rw [h]
section
variable (F:Nat->Prop)(w:World)
mutual
def SP:List Nat->AC->Value->Prop
 |bs,.imm u,v=>v=u/\bs=[]
 |bs,.view xs,v=>∃p cap,v= .slice p xs.length cap/\xs.length<=cap/\cap<=maxLen/\((xs=[]/\bs=[])\/∃b k bs' cur ty,bs=b::bs'/\p=some ⟨b,0,none⟩/\F b/\w.heap[b]? =some (.cells cur ty (0,0))/\cur.size=cap*k/\SPE bs' b k 0 xs)
 |_,_,_=>False
def SPE:List Nat->Nat->Nat->Nat->LLA->Prop
 |bs,_,_,_,[]=>bs=[]
 |bs,b,k,o,x::xs=>∃b1 b2,bs=b1++b2/\x.length=k/\SPL b1 b o x/\SPE b2 b k (o+k) xs
def SPL:List Nat->Nat->Nat->List AC->Prop
 |bs,_,_,[]=>bs=[]
 |bs,b,o,c::cs=>∃b1 b2,bs=b1++b2/\(∃u,w.cell? ⟨b,o,none⟩=some u/\one u=true/\SP b1 c u)/\SPL b2 b (o+1) cs
end
end
section
variable {F F':Nat->Prop}{w w':World}
mutual
theorem SP.rp:∀{bs:List Nat}{c:AC}{v:Value},SP F w bs c v->RP F w c v
 |bs,.imm u,v,h=>by unfold SP at h;unfold RP;exact h.1
 |bs,.view xs,v,h=>by
  unfold SP at h
  unfold RP
  obtain⟨p,cap,hv,h1,h2,h3⟩:=h
  refine⟨p,cap,hv,h1,h2,?_⟩
  rcases h3 with h3|⟨b,k,bs',cur,ty,_,hp,hb,_,_,he⟩
  ·exact .inl h3.1
  ·exact .inr ⟨b,0,k,hp,hb,SPE.rp he⟩
 |bs,.dead,v,h=>by unfold RP;trivial
 |bs,.own r,v,h=>by unfold SP at h;exact h.elim
 |bs,.sub r l n,v,h=>by unfold SP at h;exact h.elim
 |bs,.ptr r i o,v,h=>by unfold SP at h;exact h.elim
 |bs,.eptr cs o,v,h=>by unfold SP at h;exact h.elim
 |bs,.clo g rs,v,h=>by unfold SP at h;exact h.elim
 |bs,.fv b xs,v,h=>by unfold SP at h;exact h.elim
 |bs,.old b xs,v,h=>by unfold SP at h;exact h.elim
theorem SPE.rp:∀{bs:List Nat}{b k o:Nat}{xs:LLA},SPE F w bs b k o xs->RPE F w b k o xs
 |bs,b,k,o,[],h=>by unfold RPE;trivial
 |bs,b,k,o,x::xs,h=>by
  unfold SPE at h
  unfold RPE
  obtain⟨b1,b2,_,h1,h2,h3⟩:=h
  exact⟨h1,SPL.rp h2,SPE.rp h3⟩
theorem SPL.rp:∀{bs:List Nat}{b o:Nat}{cs:List AC},SPL F w bs b o cs->RPL F w b o cs
 |bs,b,o,[],h=>by unfold RPL;trivial
 |bs,b,o,c::cs,h=>by
  unfold SPL at h
  unfold RPL
  obtain⟨b1,b2,_,⟨u,hu,h1,hc⟩,h2⟩:=h
  exact⟨⟨u,hu,h1,SP.rp hc⟩,SPL.rp h2⟩
end
mutual
theorem SP.ext:∀{bs:List Nat}{c:AC}{v:Value},(∀b∈bs,F b->F' b)->(∀b∈bs,F b->w'.heap[b]? =w.heap[b]?)->SP F w bs c v->SP F' w' bs c v
 |bs,.imm u,v,hF,hw,h=>by unfold SP at h⊢;exact h
 |bs,.view xs,v,hF,hw,h=>by
  unfold SP at h⊢
  obtain⟨p,cap,hv,h1,h2,h3⟩:=h
  refine⟨p,cap,hv,h1,h2,?_⟩
  rcases h3 with h3|⟨b,k,bs',cur,ty,hbs,hp,hb,hc,hs,he⟩
  ·exact .inl h3
  ·subst hbs
   exact .inr ⟨b,k,bs',cur,ty,rfl,hp,hF b (zpd ..) hb,by rw [hw b (zpd ..) hb];exact hc,hs,SPE.ext (fun b hb=>hF b (zpe _ hb)) (fun b hb=>hw b (zpe _ hb)) (hw b (zpd ..) hb) he⟩
 |bs,.dead,v,_,_,h=>by unfold SP at h;exact h.elim
 |bs,.own r,v,_,_,h=>by unfold SP at h;exact h.elim
 |bs,.sub r l n,v,_,_,h=>by unfold SP at h;exact h.elim
 |bs,.ptr r i o,v,_,_,h=>by unfold SP at h;exact h.elim
 |bs,.eptr cs o,v,_,_,h=>by unfold SP at h;exact h.elim
 |bs,.clo g rs,v,_,_,h=>by unfold SP at h;exact h.elim
 |bs,.fv b xs,v,_,_,h=>by unfold SP at h;exact h.elim
 |bs,.old b xs,v,_,_,h=>by unfold SP at h;exact h.elim
theorem SPE.ext{b k:Nat}:∀{bs:List Nat}{o:Nat}{xs:LLA},(∀b∈bs,F b->F' b)->(∀b∈bs,F b->w'.heap[b]? =w.heap[b]?)->w'.heap[b]? =w.heap[b]? ->SPE F w bs b k o xs->SPE F' w' bs b k o xs
 |bs,o,[],hF,hw,hb,h=>by unfold SPE at h⊢;exact h
 |bs,o,x::xs,hF,hw,hb,h=>by
  unfold SPE at h⊢
  obtain⟨b1,b2,ha,h1,h2,h3⟩:=h
  subst ha
  exact⟨b1,b2,rfl,h1,SPL.ext (fun b hm=>hF b (zpx _ hm)) (fun b hm=>hw b (zpx _ hm)) hb h2,SPE.ext (fun b hm=>hF b (zpo _ hm)) (fun b hm=>hw b (zpo _ hm)) hb h3⟩
theorem SPL.ext{b:Nat}:∀{bs:List Nat}{o:Nat}{cs:List AC},(∀b∈bs,F b->F' b)->(∀b∈bs,F b->w'.heap[b]? =w.heap[b]?)->w'.heap[b]? =w.heap[b]? ->SPL F w bs b o cs->SPL F' w' bs b o cs
 |bs,o,[],hF,hw,hb,h=>by unfold SPL at h⊢;exact h
 |bs,o,c::cs,hF,hw,hb,h=>by
  unfold SPL at h⊢
  obtain⟨b1,b2,ha,⟨u,hu,h1,hc⟩,h2⟩:=h
  subst ha
  refine⟨b1,b2,rfl,⟨u,?_,h1,SP.ext (fun b hm=>hF b (zpx _ hm)) (fun b hm=>hw b (zpx _ hm)) hc⟩,SPL.ext (fun b hm=>hF b (zpo _ hm)) (fun b hm=>hw b (zpo _ hm)) hb h2⟩
  unfold World.cell? at hu⊢;rw [hb];exact hu
end
end
section
variable {F F':Nat->Prop}{w w':World}
mutual
theorem RP.ext(hF:∀b,F b->F' b)(hw:∀b,F b->w'.heap[b]? =w.heap[b]?):∀{c:AC}{v:Value},RP F w c v->RP F' w' c v
 | .imm u,v,h=>h
 | .view xs,v,h=>by
  unfold RP at h⊢
  obtain⟨p,cap,hv,h1,h2,h3⟩:=h
  refine⟨p,cap,hv,h1,h2,?_⟩
  rcases h3 with h3|⟨b,o,k,hp,hb,he⟩
  ·exact .inl h3
  ·exact .inr ⟨b,o,k,hp,hF b hb,RPE.ext hF hw hb he⟩
 | .dead,v,h=>by unfold RP;trivial
 | .own r,v,h=>by unfold RP at h;exact h.elim
 | .sub r l n,v,h=>by unfold RP at h;exact h.elim
 | .ptr r i o,v,h=>by unfold RP at h;exact h.elim
 | .eptr cs o,v,h=>by unfold RP at h;exact h.elim
 | .clo g rs,v,h=>by unfold RP at h;exact h.elim
 | .fv b xs,v,h=>by unfold RP at h;exact h.elim
 | .old b xs,v,h=>by unfold RP at h;exact h.elim
theorem RPE.ext(hF:∀b,F b->F' b)(hw:∀b,F b->w'.heap[b]? =w.heap[b]?){b k:Nat}(hb:F b):∀{o:Nat}{xs:LLA},RPE F w b k o xs->RPE F' w' b k o xs
 |o,[],h=>by unfold RPE;trivial
 |o,x::xs,h=>by
  unfold RPE at h⊢
  exact⟨h.1,RPL.ext hF hw hb h.2.1,RPE.ext hF hw hb h.2.2⟩
theorem RPL.ext(hF:∀b,F b->F' b)(hw:∀b,F b->w'.heap[b]? =w.heap[b]?){b:Nat}(hb:F b):∀{o:Nat}{cs:List AC},RPL F w b o cs->RPL F' w' b o cs
 |o,[],h=>by unfold RPL;trivial
 |o,c::cs,h=>by
  unfold RPL at h⊢
  obtain⟨⟨u,hu,h1,hc⟩,h2⟩:=h
  exact⟨⟨u,by rw [vm (hw b hb)];exact hu,h1,RP.ext hF hw hc⟩,RPL.ext hF hw hb h2⟩
end
theorem RPL.get{b:Nat}:∀{cs:List AC}{o j:Nat}{c:AC},RPL F w b o cs->cs[j]? =some c->∃u,w.cell? ⟨b,o+j,none⟩=some u/\one u=true/\RP F w c u
 | [],o,j,c,_,h=>by simp at h
 |c0::cs,o,0,c,h,hj=>by
  unfold RPL at h
  simp only [zqw,zqy]at hj
  subst hj
  simpa using h.1
 |c0::cs,o,j+1,c,h,hj=>by
  unfold RPL at h
  simp only [List.getElem?_cons_succ]at hj
  have:=RPL.get h.2 hj
  rwa [show o+1+j=o+(j+1) by omega]at this
variable {b k:Nat}
theorem RPE.get:∀{xs:LLA}{o i:Nat}{x:List AC},RPE F w b k o xs->xs[i]? =some x->x.length=k/\RPL F w b (o+i*k) x
 | [],o,i,x,_,h=>by simp at h
 |x0::xs,o,0,x,h,hi=>by
  unfold RPE at h
  simp only [zqw,zqy]at hi
  subst hi
  exact⟨h.1,by simpa using h.2.1⟩
 |x0::xs,o,i+1,x,h,hi=>by
  unfold RPE at h
  simp only [List.getElem?_cons_succ]at hi
  have:=RPE.get h.2.2 hi
  rwa [show o+k+i*k=o+(i+1)*k by rw [Nat.add_mul];omega]at this
theorem RPE.drop:∀{xs:LLA}{o:Nat}(n:Nat),RPE F w b k o xs->RPE F w b k (o+n*k) (xs.drop n)
 |xs,o,0,h=>by simpa using h
 | [],o,n+1,h=>by simp;unfold RPE;trivial
 |x::xs,o,n+1,h=>by
  unfold RPE at h
  have:=RPE.drop n h.2.2
  rwa [show o+k+n*k=o+(n+1)*k by rw [Nat.add_mul];omega]at this
theorem RPE.take:∀{xs:LLA}{o:Nat}(n:Nat),RPE F w b k o xs->RPE F w b k o (xs.take n)
 |xs,o,0,h=>by simp;unfold RPE;trivial
 | [],o,n+1,h=>by simp;unfold RPE;trivial
 |x::xs,o,n+1,h=>by
  unfold RPE at h
  simp only [List.take_succ_cons]
  unfold RPE
  exact⟨h.1,h.2.1,RPE.take n h.2.2⟩
end
def RCp(m:AM)(h:AH)(r:Nat)(v:Value):Prop:=h[r]? =some .gone\/∃ab b cap,h[r]? =some (.live ab)/\m[r]? =some (some (b,cap))/\v= .pointer (some ⟨b,0,none⟩)
def RCl(m:AM)(h:AH)(g:Nat)(rs:List Nat)(v:Value):Prop:=∃vs:List Value,v= .func (.func g) #[] vs.toArray/\vs.length=rs.length/\∀(j r:Nat),rs[j]? =some r->∃u,vs[j]? =some u/\RCp m h r u
variable {rs:List Nat}
theorem RCl.map{m m':AM}{h h':AH}{f:Nat->Nat}(hf:∀r u,RCp m h r u->RCp m' h' (f r) u){g:Nat}{v:Value}(hc:RCl m h g rs v):RCl m' h' g (rs.map f) v:=by
 obtain⟨vs,h1,h2,h3⟩:=hc
 refine⟨vs,h1,by simpa using h2,fun j r hj=> ?_⟩
 simp only [zqi,zqj]at hj
 obtain⟨q,hq,rfl⟩:=hj
 obtain⟨u,hu,hr⟩:=h3 j q hq
 exact⟨u,hu,hf q u hr⟩
theorem RCl.mono{m m':AM}{h h':AH}(hf:∀r u,RCp m h r u->RCp m' h' r u){g:Nat}{v:Value}(hc:RCl m h g rs v):RCl m' h' g rs v:=by
 have:=hc.map (f:=id) hf
 rwa [List.map_id]at this
def RC(F:Nat->Prop)(w:World)(m:AM)(h:AH):AC->Value->Prop
 | .imm u,v=>v=u
 | .view xs,v=>RP F w (.view xs) v
 | .own r,v=>h[r]? =some .gone\/∃ab,h[r]? =some (.live ab)/\((∃b cap,m[r]? =some (some (b,cap))/\v= .slice (some ⟨b,0,none⟩) ab.es.length cap)\/(m[r]? =some none/\ab.es.length=0/\v= .slice none 0 0))
 | .sub r lo n,v=>h[r]? =some .gone\/∃ab c p,h[r]? =some (.live ab)/\lo+n<=ab.es.length/\n<=c/\c<=maxLen/\v= .slice p n c/\(0<n->∃b cap,m[r]? =some (some (b,cap))/\p=some ⟨b,lo*ab.k,none⟩)
 | .ptr r i off,v=>h[r]? =some .gone\/∃ab b cap,h[r]? =some (.live ab)/\m[r]? =some (some (b,cap))/\v= .pointer (some ⟨b,i*ab.k+off,none⟩)
 | .eptr cs off,v=>∃b o,v= .pointer (some ⟨b,o+off,none⟩)/\F b/\RPL F w b o cs
 | .clo g rs,v=>RCl m h g rs v
 | .fv bs xs,v=>SP F w bs (.view xs) v
 | .old p xs,v=>RP (fun b=>F b/\b<p) w (.view xs) v
 | .dead,_=>True
def RT(F:Nat->Prop)(w:World)(m:AM)(h:AH):AT->Value->Prop
 | .c x,v=>RC F w m h x v
 | .agg xs,v=>∃vs:List Value,v= .agg vs.toArray/\vs.length=xs.length/\∀(j:Nat)(x:AC),xs[j]? =some x->∃u,vs[j]? =some u/\one u=true/\RC F w m h x u
def RV(F:Nat->Prop)(w:World)(m:AM)(h:AH):AV->Value->Prop
 | .t x,v=>RT F w m h x v
 | .tup xs,v=>∃vs:List Value,v= .tuple vs.toArray/\vs.length=xs.length/\∀(j:Nat)(x:AT),xs[j]? =some x->∃u,vs[j]? =some u/\RT F w m h x u
def RB(F:Nat->Prop)(w:World)(m:AM)(h:AH)(b cap:Nat)(ab:AB):Prop:=
 ∃cur:Array Value,w.heap[b]? =some (.cells cur ab.ty (0,0))/\cur.size=cap*ab.k/\ab.es.length<=cap/\cap<=maxLen/\
  ∀(i:Nat)(x:List AC),ab.es[i]? =some x->x.length=ab.k/\∀(j:Nat)(c:AC),x[j]? =some c->∃u,cur[i*ab.k+j]? =some u/\one u=true/\RC F w m h c u
structure RH [BP](F:Nat->Prop)(w:World)(m:AM)(h:AH):Prop where
 at_:∀(r:Nat)(ab:AB),h[r]? =some (.live ab)->(m[r]? =some none/\ab.es.length=0)\/∃b cap,m[r]? =some (some (b,cap))/\¬F b/\RB F w m h b cap ab
 inj:∀(r r':Nat)(ab ab':AB)(b cap cap':Nat),h[r]? =some (.live ab)->h[r']? =some (.live ab')->m[r]? =some (some (b,cap))->m[r']? =some (some (b,cap'))->r=r'
 len:m.length=h.length
 old:∀b,F b->b<w.heap.size
 lo:BP.lo<=w.heap.size
def fW(m:AM)(h:AH)(m':AM)(h':AH):Prop:=
 ∀(r:Nat),(h[r]? =some .gone->h'[r]? =some .gone)/\∀ab,h[r]? =some (.live ab)->h'[r]? =some .gone\/∃ab',h'[r]? =some (.live ab')/\ab'.k=ab.k/\ab'.es.length=ab.es.length/\m'[r]? =m[r]?
theorem fW.refl(m:AM)(h:AH):fW m h m h:=fun r=>⟨id,fun ab hr=> .inr ⟨ab,hr,rfl,rfl,rfl⟩⟩
section
variable {F F':Nat->Prop}{w w':World}{m m':AM}{h h':AH}
theorem RC.ext(hF:∀b,F b->F' b)(hw:∀b,F b->w'.heap[b]? =w.heap[b]?)(hk:fW m h m' h'){c:AC}{v:Value}(hc:RC F w m h c v):RC F' w' m' h' c v:=by
 cases c with
 |imm u=>exact hc
 |view xs=>exact RP.ext hF hw hc
 |own r=>
  rcases hc with hg|⟨ab,h1,h2⟩
  ·exact .inl ((hk r).1 hg)
  ·rcases(hk r).2 ab h1 with hg|⟨ab',h4,h5,h6,h7⟩
   ·exact .inl hg
   ·refine .inr ⟨ab',h4,?_⟩
    rw [h6,h7]
    exact h2
 |sub r lo n=>
  rcases hc with hg|⟨ab,c,p,h1,h3,h8,h9,h10,h11⟩
  ·exact .inl ((hk r).1 hg)
  ·rcases(hk r).2 ab h1 with hg|⟨ab',h4,h5,h6,h7⟩
   ·exact .inl hg
   ·exact .inr ⟨ab',c,p,h4,by rw [h6];exact h3,h8,h9,h10,by rw [h5,h7];exact h11⟩
 |ptr r i off=>
  rcases hc with hg|⟨ab,b,cap,h1,h2,h3⟩
  ·exact .inl ((hk r).1 hg)
  ·rcases(hk r).2 ab h1 with hg|⟨ab',h4,h5,h6,h7⟩
   ·exact .inl hg
   ·exact .inr ⟨ab',b,cap,h4,by rw [h7];exact h2,by rw [h5];exact h3⟩
 |eptr cs off=>
  obtain⟨b,o,h1,h2,h3⟩:=hc
  exact⟨b,o,h1,hF b h2,RPL.ext hF hw h2 h3⟩
 |clo g rs=>
  exact RCl.mono (fun r u hr=>by
   rcases hr with hg|⟨ab,b,cap,h1,h2,h3⟩
   ·exact .inl ((hk r).1 hg)
   ·rcases(hk r).2 ab h1 with hg|⟨ab',h4,h5,h6,h7⟩
    ·exact .inl hg
    ·exact .inr ⟨ab',b,cap,h4,by rw [h7];exact h2,h3⟩) hc
 |fv bs xs=>exact SP.ext (fun b _=>hF b) (fun b _=>hw b) hc
 |old p xs=>exact RP.ext (fun b hb=>⟨hF b hb.1,hb.2⟩) (fun b hb=>hw b hb.1) hc
 |dead=>trivial
theorem RT.ext(hF:∀b,F b->F' b)(hw:∀b,F b->w'.heap[b]? =w.heap[b]?)(hk:fW m h m' h'){c:AT}{v:Value}(hc:RT F w m h c v):RT F' w' m' h' c v:=by
 cases c with
 |c x=>exact RC.ext hF hw hk hc
 |agg xs=>
  obtain⟨vs,h1,h2,h3⟩:=hc
  exact⟨vs,h1,h2,fun j x hj=>let⟨u,hu,ho,hr⟩:=h3 j x hj;⟨u,hu,ho,RC.ext hF hw hk hr⟩⟩
theorem RV.ext(hF:∀b,F b->F' b)(hw:∀b,F b->w'.heap[b]? =w.heap[b]?)(hk:fW m h m' h'){c:AV}{v:Value}(hc:RV F w m h c v):RV F' w' m' h' c v:=by
 cases c with
 |t x=>exact RT.ext hF hw hk hc
 |tup xs=>
  obtain⟨vs,h1,h2,h3⟩:=hc
  exact⟨vs,h1,h2,fun j x hj=>let⟨u,hu,hr⟩:=h3 j x hj;⟨u,hu,RT.ext hF hw hk hr⟩⟩
theorem RB.ext(hF:∀b,F b->F' b)(hw:∀b,F b->w'.heap[b]? =w.heap[b]?)(hk:fW m h m' h'){b cap:Nat}{ab:AB}(hb:w'.heap[b]? =w.heap[b]?)(hc:RB F w m h b cap ab):RB F' w' m' h' b cap ab:=by
 obtain⟨cur,h1,h2,h3,h4,h5⟩:=hc
 exact⟨cur,by rw [hb];exact h1,h2,h3,h4,fun i x hx=>⟨(h5 i x hx).1,fun j c hj=>let⟨u,hu,ho,hr⟩:=(h5 i x hx).2 j c hj;⟨u,hu,ho,RC.ext hF hw hk hr⟩⟩⟩
end
def s4(P:Program)(t:TypeId):Option (Option Nat):=
 match P.underlying t,P.info? t with
 |some (.struct _),some i=>some (some i.size)
 |some (.array _ _),some i=>some (some i.size)
 |some _,some _=>some none
 |_,_=>none
def nh(P:Program)(t:TypeId):Option (List Value):=((P.info? t).bind (·.zero)).map (·.cells.toList)
def jt(P:Program)(t:TypeId):Option Nat:=(P.info? t).map (·.size)
def kK(P:Program)(t:TypeId)(i:Nat):Option (Nat×TypeId):=
 match P.underlying t with
 |some (.struct fs)=>(fs[i]?).bind fun f=>match P.info? f.type with|some j=>if j.size=0 then none else some (f.offset,f.type)|none=>none
 |_=>none
def gB(P:Program)(t:TypeId):Option (TypeId×Nat×Nat):=
 match P.underlying t with
 |some (.slice e)=>(P.info? e).map fun i=>(e,i.size,i.bytes)
 |_=>none
def Kf(P:Program)(E:TypeId->List Value->List Value->Option Bool)(xs ys:List Value):List Field->Option Bool
 | []=>some true
 |f::fs=>if f.name= "_" then none else
  match (P.info? f.type).map (·.size)with
  |some k=>match E f.type ((xs.drop f.offset).take k) ((ys.drop f.offset).take k),Kf P E xs ys fs with|some a,some b=>some (a&&b)|_,_=>none
  |none=>none
def eqT(P:Program):Nat->TypeId->List Value->List Value->Option Bool
 |0,_,_,_=>none
 |d+1,t,xs,ys=>
  match P.underlying t with
  |some .bool=>match xs,ys with| [.bool a],[.bool b]=>some (a==b)|_,_=>none
  |some (.int _)=>match xs,ys with| [.int k a],[.int k' b]=>if k=k' then some (a==b)else none|_,_=>none
  |some (.struct fs)=>if P.stoodInHeld t then none else Kf P (eqT P d) xs ys fs.toList
  |_=>none
def ev(T:Nat->AV):Operand->AV
 | .tmp t=>T t
 | .const v=> .t (.c (.imm v))
 | .func f=> .t (.c (.imm (.func (.func f) #[] #[])))
 | .global _=> .t (.c .dead)
def RTm(F:Nat->Prop)(w:World)(m:AM)(h:AH)(T:Nat->AV)(a:Act):Prop:=∀d,RV F w m h (T d) (a.tmps.getD d undef)
theorem iC{F:Nat->Prop}{w:World}{m:AM}{h:AH}{T:Nat->AV}{a:Act}(hT:RTm F w m h T a)(x:Operand):RV F w m h (ev T x) (a.eval x):=by
 cases x with
 |tmp t=>exact hT t
 |const v=>exact(rfl:v=v)
 |func f=>exact(rfl:Value.func (.func f) #[] #[]=Value.func (.func f) #[] #[])
 |global g=>trivial
def okc(h:AH):AC->Bool
 | .imm u=>one u
 | .dead=>false
 | .own r| .sub r _ _| .ptr r _ _=>match h[r]? with|some (.live _)=>true|_=>false
 |_=>true
def Cp(g h:AH):Prop:=∀(r:Nat)(ab:AB),g[r]? =some (.live ab)->h[r]? ≠some .gone/\∀ab',h[r]? =some (.live ab')->ab'=ab
theorem Cp.refl(h:AH):Cp h h:=fun r ab hr=>⟨(by rw [hr];intro he;cases he),(fun ha h'=>by rw [hr]at h';cases h';rfl)⟩
variable {r:Nat}
theorem Cp.gone{g h:AH}(hC:Cp g h){ab:AB}(hr:g[r]? =some (.live ab))(hg:h[r]? =some .gone):False:=(hC r ab hr).1 hg
theorem Cp.live{g h:AH}(hC:Cp g h){ab ab':AB}(hr:g[r]? =some (.live ab))(hl:h[r]? =some (.live ab')):ab'=ab:=(hC r ab hr).2 ab' hl
theorem wi{g:AH}(ho:(match g[r]? with|some (.live _)=>true|_=>false)=true):∃ab,g[r]? =some (.live ab):=by
 split at ho
 ·exact⟨_,by assumption⟩
 ·cases ho
theorem RC.one{F:Nat->Prop}{w:World}{m:AM}{g h:AH}(hC:Cp g h){c:AC}{v:Value}(hc:RC F w m h c v)(ho:okc g c=true):one v=true:=by
 cases c with
 |imm u=>have:v=u:=hc;subst this;exact ho
 |view xs=>
  have h1:RP F w (.view xs) v:=hc
  unfold RP at h1
  obtain⟨p,cap,rfl,_⟩:=h1
  rfl
 |own r=>rcases hc with h1|⟨ab,h1,⟨b,cap,h2,rfl⟩|⟨h2,h3,rfl⟩⟩;(obtain⟨ab,ha⟩:=wi ho;exact(hC.gone ha h1).elim);rfl;rfl
 |sub r lo n=>rcases hc with h1|⟨ab,c,p,h1,h3,h8,h9,rfl,h11⟩;(obtain⟨ab,ha⟩:=wi ho;exact(hC.gone ha h1).elim);rfl
 |ptr r i off=>rcases hc with h1|⟨ab,b,cap,h1,h2,rfl⟩;(obtain⟨ab,ha⟩:=wi ho;exact(hC.gone ha h1).elim);rfl
 |eptr cs off=>obtain⟨b,o,rfl,_⟩:=hc;rfl
 |clo g rs=>obtain⟨vs,rfl,_⟩:=hc;rfl
 |fv bs xs=>
  have h1:RP F w (.view xs) v:=SP.rp hc
  unfold RP at h1
  obtain⟨p,cap,rfl,_⟩:=h1
  rfl
 |old q xs=>
  have h1:RP _ w (.view xs) v:=hc
  unfold RP at h1
  obtain⟨p,cap,rfl,_⟩:=h1
  rfl
 |dead=>cases ho
def bo(op:BinOp)(x y:Value):Option Value:=
 match x,y with
 | .int k a,.int k' b=>
  match op with
  | .shr=>if b<0 then none else some (.int k (a.fdiv (2^ min b.toNat k.bits)))
  | .shl=>none
  |op=>if k=k' then
   match op with
   | .add=>some (.int k (k.wrap (a+b)))
   | .sub=>some (.int k (k.wrap (a-b)))
   | .mul=>some (.int k (k.wrap (a*b)))
   | .quo=>if b=0 then none else some (.int k (k.wrap (a.tdiv b)))
   | .rem=>if b=0 then none else some (.int k (a.tmod b))
   | .and=>some (.int k (k.wrap ((BitVec.ofInt k.bits a&&&BitVec.ofInt k.bits b).toNat)))
   | .or=>some (.int k (k.wrap ((BitVec.ofInt k.bits a|||BitVec.ofInt k.bits b).toNat)))
   | .xor=>some (.int k (k.wrap ((BitVec.ofInt k.bits a^^^ BitVec.ofInt k.bits b).toNat)))
   | .eql=>some (.bool (a==b))
   | .neq=>some (.bool (a !=b))
   | .lss=>some (.bool (a<b))
   | .leq=>some (.bool (a<=b))
   | .gtr=>some (.bool (a>b))
   | .geq=>some (.bool (a≥b))
   |_=>none
  else none
 |_,_=>none
def bob(op:BinOp)(x y:Bool):Option Value:=
 match op with
 | .eql=>some (.bool (x==y))
 | .neq=>some (.bool (x !=y))
 |_=>none
def uo(op:UnOp)(x:Value):Option Value:=
 match op,x with
 | .neg,.int k n=>some (.int k (k.wrap (0-n)))
 | .not,.bool b=>some (.bool !b)
 |_,_=>none
def AT.cells:AT->List AC
 | .c x=>[x]
 | .agg xs=>xs
def Cb(h:AH):AC->Option Nat
 | .N=>some 0
 | .view xs=>some xs.length
 | .own r=>match h[r]? with|some (.live ab)=>some ab.es.length|_=>none
 | .sub r lo n=>match h[r]? with|some (.live ab)=>some n|_=>none
 |_=>none
def ldA(q:Option Nat)(x:List AC)(off:Nat)(K:AV->Prop):Prop:=
 match q with
 |none=>∃c,x[off]? =some c/\K (.t (.c c))
 |some k=>off+k<=x.length/\K (.t (.agg ((x.drop off).take k)))
def qT(P:Program)(t:TypeId):Bool:=
 match P.underlying t with
 |some (.struct fs)=>(fs.toList.mapM fun f=>(P.info? f.type).map fun i=>(f.offset,i.size)).isSome
 |_=>false
def pe(cs:List AC)(d:Nat)(ys:List AC):List AC:=cs.take d++ys++cs.drop (d+ys.length)
def kJ(P:Program)(T:Nat->AV)(h:AH)(t:TypeId):List (Nat×Operand)->List AC->(List AC->Prop)->Prop
 | [],cs,K=>K cs
 |(i,x)::ps,cs,K=>match ev T x,kK P t i with
  | .t y,some (d,u)=>jt P u=some y.cells.length/\d+y.cells.length<=cs.length/\y.cells.all (okc h)=true/\kJ P T h t ps (pe cs d y.cells) K
  |_,_=>False
def kI(T:Nat->AV)(h:AH)(k:Nat):List (Nat×Operand)->LLA->(LLA->Prop)->Prop
 | [],es,K=>K es
 |(i,x)::ps,es,K=>match ev T x with
  | .t y=>y.cells.length=k/\i<es.length/\y.cells.all (okc h)=true/\kI T h k ps (es.set i y.cells) K
  |_=>False
def GU(T:Nat->AV):List Operand->Option (List Nat)
 | []=>some []
 |x::l=>match ev T x with| .p r=>(match GU T l with|some rs=>some (r::rs)|none=>none)|_=>none
def pop(P:Program)(T:Nat->AV)(h:AH)(n:Nat)(o:Op)(K:AV->List AB->Prop):Prop:=
 match o with
 | .move x=>K (ev T x) []
 | .assign x=>K (ev T x) []
 | .pick c a b=>match ev T c with| .t (.c (.imm (.bool q)))=>(q=true->K (ev T a) [])/\(q=false->K (ev T b) [])|_=>False
 | .alloc t=>match nh P t,jt P t with|some z,some k=>z.length=k/\z.all one=true/\K (.p n) [⟨t,k,[z.map .imm]⟩]|_,_=>False
 | .box t x=>match ev T x,jt P t with| .t y,some k=>y.cells.length=k/\y.cells.all (okc h)=true/\K (.p n) [⟨t,k,[y.cells]⟩]|_,_=>False
 | .load t a=>match ev T a,s4 P t with
  | .t (.c (.ptr r i off)),some q=>match h[r]? with|some (.live ab)=>∃x,ab.es[i]? =some x/\ldA q x off (fun v=>K v [])|_=>False
  | .t (.c (.eptr cs off)),some q=>ldA q cs off (fun v=>K v [])
  |_,_=>False
 | .binOp op t x y _=>match ev T x,ev T y with
  | .t (.c (.imm (.int k a))),.t (.c (.imm (.int k' b)))=>∃z,bo op (.int k a) (.int k' b)=some z/\K (.t (.c (.imm z))) []
  | .t (.c (.imm (.bool a))),.t (.c (.imm (.bool b)))=>P.underlying t=some .bool/\∃z,bob op a b=some z/\K (.t (.c (.imm z))) []
  | .t (.agg xs),.t (.agg ys)=>P.eqGuardType P.depth t=false/\(∃fs,P.underlying t=some (.struct fs))/\∃us vs r,xs=us.map .imm/\ys=vs.map .imm/\eqT P 8 t us vs=some r/\
    (match op with| .eql=>K (.t (.c (.B r))) []| .neq=>K (.t (.c (.B (!r)))) []|_=>False)
  |_,_=>False
 | .unOp op _ x=>match ev T x with| .t (.c (.imm u))=>∃z,uo op u=some z/\K (.t (.c (.imm z))) []|_=>False
 | .fieldAddr t x i=>match ev T x,kK P t i with
  | .t (.c (.ptr r j off)),some (d,_)=>(match h[r]? with|some (.live ab)=>K (.t (.c (.ptr r j (off+d)))) []|_=>False)
  | .t (.c (.eptr cs off)),some (d,_)=>K (.t (.c (.eptr cs (off+d)))) []
  |_,_=>False
 | .field t x i=>match ev T x,kK P t i with
  | .t (.agg xs),some (d,u)=>match s4 P u with|some q=>ldA q xs d (fun v=>K v [])|none=>False
  |_,_=>False
 | .indexAddr t x i=>match ev T x,ev T i,gB P t with
  | .v xs,.t (.c (.imm (.int _ z))),some (_,k,_)=>0<=z/\∃y,xs[z.toNat]? =some y/\y.length=k/\K (.t (.c (.eptr y 0))) []
  | .o r,.t (.c (.imm (.int _ z))),some (_,k,_)=>match h[r]? with|some (.live ab)=>ab.k=k/\0<=z/\z.toNat<ab.es.length/\K (.t (.c (.ptr r z.toNat 0))) []|_=>False
  | .t (.c (.sub r lo n)),.t (.c (.imm (.int _ z))),some (_,k,_)=>match h[r]? with|some (.live ab)=>ab.k=k/\0<=z/\z.toNat<n/\K (.t (.c (.ptr r (lo+z.toNat) 0))) []|_=>False
  |_,_,_=>False
 | .extract x i=>match ev T x with| .tup xs=>∃y,xs[i]? =some y/\K (.t y) []|_=>False
 | .nilCheck x=>match ev T x with
  | .t (.c (.ptr r i off))=>(match h[r]? with|some (.live ab)=>K (.t (.c (.ptr r i off))) []|_=>False)
  | .t (.c (.eptr cs off))=>K (.t (.c (.eptr cs off))) []
  | .t (.c (.clo f rs))=>K (.t (.c (.clo f rs))) []
  |_=>False
 | .makeFunc fn first cap=>match fn,first.toList,GU T cap.toList with
  | .func f,[],some rs=>K (.t (.c (.clo f rs))) []
  |_,_,_=>False
 | .convert s d x=>match ev T x,P.underlying s,P.underlying d with
  | .t (.c (.imm (.int _ n))),some (.int _),some (.int k)=>K (.t (.c (.imm (.int k (k.wrap n))))) []
  |_,_,_=>False
 | .makeSlice t l c=>match ev T l,ev T c,gB P t with
  | .t (.c (.imm (.int .i64 a))),.t (.c (.imm (.int .i64 b))),some (e,k,by_)=>a=b/\0<=a/\(by_:Int)*a<=140737488355328/\a<=4611686018427387904/\∃z,nh P e=some z/\z.length=k/\0<k/\z.all one=true/\K (.o n) [⟨e,k,List.replicate a.toNat (z.map .imm)⟩]
  |_,_,_=>False
 | .build t parts=>qT P t=true/\(match nh P t with|some z=>z.all one=true/\kJ P T h t parts.toList (z.map .imm) (fun cs=>K (.t (.agg cs)) [])|none=>False)
 | .buildSlice t len parts=>match gB P t with
  |some (e,k,_)=>∃z,nh P e=some z/\z.length=k/\0<k/\len*k<=16777216/\z.all one=true/\kI T h k parts.toList (List.replicate len (z.map .imm)) (fun es=>K (.o n) [⟨e,k,es⟩])
  |none=>False
 | .slice t x lo hi none=>match ev T x,gB P t with
  | .t (.c y),some (e,k,_)=>match Cb h y with
   |some len=>∃a b:Nat,(match lo with|none=>a=0|some l=>match ev T l with| .t (.c (.imm (.int _ z)))=>0<=z/\a=z.toNat|_=>False)/\
     (match hi with|none=>b=len|some l=>match ev T l with| .t (.c (.imm (.int _ z)))=>0<=z/\b=z.toNat|_=>False)/\a<=b/\b<=len/\
     (match y with
      | .imm _=>K (.t (.c (.view []))) []
      | .view xs=>(∀x∈xs,x.length=k)/\K (.t (.c (.view ((xs.take b).drop a)))) []
      | .own r=>(match h[r]? with|some (.live ab)=>ab.k=k/\K (.t (.c (.sub r a (b-a)))) []|_=>False)
      |_=>False)
   |none=>False
  |_,_=>False
 | .call c=>match c.callee,c.args.toList,c.argTypes.toList with
  | .builtin .len,[x],[t]=>match ev T x,gB P t with| .t (.c y),some _=>∃n,Cb h y=some n/\K (.t (.c (.imm (.int .i64 (n:Int))))) []|_,_=>False
  | .builtin .min,[x,y],_=>match ev T x,ev T y with| .t (.c (.imm (.int .i64 a))),.t (.c (.imm (.int .i64 b)))=>K (.t (.c (.imm (.int .i64 (if b<a then b else a))))) []|_,_=>False
  | .builtin .max,[x,y],_=>match ev T x,ev T y with| .t (.c (.imm (.int .i64 a))),.t (.c (.imm (.int .i64 b)))=>K (.t (.c (.imm (.int .i64 (if a<b then b else a))))) []|_,_=>False
  |_,_,_=>False
 |_=>False
def Out(F:Nat->Prop)(w:World)(m:AM)(h:AH)(n:Nat)(res:AV)(rows:List AB)(v:Value)(w':World):Prop:=
 Below w.heap.size w w'/\∃nb:AM,nb.length=rows.length/\(∀(j b c:Nat),nb[j]? =some (some (b,c))->w.heap.size<=b/\b<w'.heap.size)/\
  (∀(j j' b c c':Nat),nb[j]? =some (some (b,c))->nb[j']? =some (some (b,c'))->j=j')/\
  ∀(m':AM)(h':AH),fW m h m' h'->(∀(j:Nat)(ab:AB),rows[j]? =some ab->h'[n+j]? =some (.live ab)/\m'[n+j]? =nb[j]?)->
   RV F w' m' h' res v/\(∀(j:Nat)(ab:AB),rows[j]? =some ab->nb[j]? =some none->ab.es.length=0)/\∀(j:Nat)(ab:AB)(b c:Nat),rows[j]? =some ab->nb[j]? =some (some (b,c))->RB F w' m' h' b c ab
section
variable {P:Program}{F:Nat->Prop}{w:World}{m:AM}{h:AH}{n:Nat}
theorem K6{res:AV}{v:Value}(hr:RV F w m h res v):Out F w m h n res [] v w:=
 ⟨Below.refl _ _,[],rfl,fun j b c hj=>by simp at hj,fun j j' b c c' hj=>by simp at hj,fun m' h' hk _=>⟨RV.ext (fun _ hb=>hb) (fun _ _=>rfl) hk hr,fun j ab hj=>by simp at hj,fun j ab b c hj=>by simp at hj⟩⟩
theorem D8(w:World)(o:Obj)(b:Nat)(hb:b<w.heap.size):(w.alloc o).heap[b]? =w.heap[b]? :=by
 show(w.heap.push o)[b]? =_
 rw [Array.getElem?_push,if_neg (by omega)]
theorem D9(w:World)(o:Obj):(w.alloc o).heap[w.heap.size]? =some o:=by
 show(w.heap.push o)[w.heap.size]? =_
 simp
theorem J8{β:BP}(hH:RH F w m h){t:TypeId}{k cap:Nat}{cur:Array Value}{es:LLA}{res:AV}{v:Value}(hs:cur.size=cap*k)(hc:es.length<=cap)(hm:cap<=maxLen)
  (he:∀(i:Nat)(x:List AC),es[i]? =some x->x.length=k/\∀(j:Nat)(c:AC),x[j]? =some c->∃u,cur[i*k+j]? =some u/\one u=true/\RC F w m h c u)
  (hr:∀(m':AM)(h':AH),h'[n]? =some (.live ⟨t,k,es⟩)->m'[n]? =some (some (w.heap.size,cap))->RV F (w.alloc (.cells cur t)) m' h' res v):
  Out F w m h n res [⟨t,k,es⟩] v (w.alloc (.cells cur t)):=by
 refine⟨(Below.refl _ _).alloc (zpk _) _,[some (w.heap.size,cap)],rfl,fun j b c hj=> ?_,fun j j' b c c' hj ha=> ?_,fun m' h' hk hp=> ?_⟩
 ·cases j with
  |zero=>simp at hj;obtain⟨rfl,rfl⟩:=hj;simp
  |succ j=>simp at hj
 ·cases j<;>cases j'<;>simp at hj ha<;>rfl
 ·obtain⟨h1,h2⟩:=hp 0 _ rfl
  simp only [Nat.add_zero,zqw]at h1 h2
  refine⟨hr m' h' h1 h2,fun j ab hj hb=>by cases j<;>simp at hb,fun j ab b c hj hb=> ?_⟩
  cases j with
  |succ j=>simp at hj
  |zero=>
   simp at hj hb
   obtain⟨rfl,rfl⟩:=hb
   subst hj
   exact⟨cur,D9 w _,hs,hc,hm,fun i x hx=>⟨(he i x hx).1,fun j c hj=>let⟨u,hu,ho,hru⟩:=(he i x hx).2 j c hj;⟨u,hu,ho,RC.ext (fun _ hb=>hb) (fun b hb=>D8 w _ b (hH.old b hb)) hk hru⟩⟩⟩
theorem xg{vs:List Value}(h:vs.all one=true){j:Nat}{u:Value}(hj:vs[j]? =some u):one u=true:=zqf.1 h u (zqd hj)
theorem Bz{g:AH}(hC:Cp g h){x:AT}{v:Value}(hr:RT F w m h x v)(hok:x.cells.all (okc g)=true):v.cells.size=x.cells.length/\∀(j:Nat)(c:AC),x.cells[j]? =some c->∃u,v.cells[j]? =some u/\one u=true/\RC F w m h c u:=by
 cases x with
 |c y=>
  have ho:=RC.one hC (c:=y) hr (by simpa [AT.cells]using hok)
  have hv:v.cells= #[v]:=by cases v<;>first|rfl|cases ho
  refine⟨by rw [hv];rfl,fun j c hj=> ?_⟩
  cases j with
  |zero=>simp [AT.cells]at hj;subst hj;exact⟨v,by rw [hv];rfl,ho,hr⟩
  |succ j=>simp [AT.cells]at hj
 |agg xs=>
  obtain⟨vs,rfl,hl,hc⟩:=hr
  exact⟨by simp [Value.cells,AT.cells,hl],fun j c hj=>let⟨u,hu,ho,hr⟩:=hc j c hj;⟨u,by simpa [Value.cells]using hu,ho,hr⟩⟩
end
section
variable {P:Program}{F:Nat->Prop}{w:World}{m:AM}{h:AH}{n:Nat}
theorem pB(b o j:Nat):(⟨b,o,none⟩:Addr).add j=⟨b,o+j,none⟩:=by
 unfold Addr.add;split<;>simp_all
variable {t:TypeId}
theorem iP{z:List Value}(hz:nh P t=some z):∃i v,P.info? t=some i/\i.zero=some v/\z=v.cells.toList:=by
 unfold nh at hz
 simp only [zqj,Option.bind_eq_some_iff]at hz
 obtain⟨v,⟨i,hi,hv⟩,rfl⟩:=hz
 exact⟨i,v,hi,hv,rfl⟩
theorem xH{k:Nat}(hk:jt P t=some k):∃i,P.info? t=some i/\i.size=k:=by
 unfold jt at hk
 simpa using hk
theorem jU{t e:TypeId}{k by_:Nat}(he:gB P t=some (e,k,by_)):P.underlying t=some (.slice e)/\∃i,P.info? e=some i/\i.size=k/\i.bytes=by_:=by
 unfold gB at he
 split at he
 ·rename_i e' hu
  simp only [zqj,Prod.mk.injEq]at he
  obtain⟨i,hi,rfl,rfl,rfl⟩:=he
  exact⟨hu,i,hi,rfl,rfl⟩
 ·cases he
theorem pt{i d:Nat}{u:TypeId}(hf:kK P t i=some (d,u)):∃fs f j,P.underlying t=some (.struct fs)/\fs[i]? =some f/\P.info? f.type=some j/\j.size≠0/\f.offset=d/\f.type=u:=by
 unfold kK at hf
 split at hf
 ·rename_i fs hu
  simp only [Option.bind_eq_some_iff]at hf
  obtain⟨f,ha,h2⟩:=hf
  split at h2
  ·rename_i j hj
   split at h2
   ·cases h2
   ·simp only [zqy,Prod.mk.injEq]at h2
    exact⟨fs,f,j,hu,ha,hj,by assumption,h2.1,h2.2⟩
  ·cases h2
 ·cases hf
variable {q:Option Nat}
theorem BI(ha:s4 P t=some q):match q with
  |none=>(isAgg t).run P w= .ok false w
  |some k=>(isAgg t).run P w= .ok true w/\(sizeOf t).run P w= .ok k w:=by
 unfold s4 at ha
 split at ha
 ·rename_i fs i hu hi
  cases ha
  exact⟨by simp [isAgg,run_underlying hu],by simp [sizeOf,typeInfo,hi]⟩
 ·rename_i a b i hu hi
  cases ha
  exact⟨by simp [isAgg,run_underlying hu],by simp [sizeOf,typeInfo,hi]⟩
 ·rename_i d i hs hA hu hi
  cases ha
  simp only [isAgg,Sem.run_bind,run_underlying hu,Result.andThen_ok]
  rfl
 ·cases ha
theorem xZ(ha:s4 P t=some q){b o:Nat}{x:List AC}{K:AV->Prop}{off:Nat}
  (hx:∀(j:Nat)(c:AC),x[j]? =some c->∃u,w.cell? ⟨b,o+j,none⟩=some u/\one u=true/\RC F w m h c u) (hl:ldA q x off K):
  ∃res v,K res/\(loadVar t ⟨b,o+off,none⟩).run P w= .ok v w/\RV F w m h res v:=by
 have hs:=BI (w:=w) ha
 cases q with
 |none=>
  obtain⟨c,hc,hK⟩:=hl
  obtain⟨u,hu,ho,hr⟩:=hx off c hc
  refine⟨_,u,hK,?_,hr⟩
  simp only at hs
  simp [loadVar,hs,hu]
 |some k=>
  obtain⟨hg,hK⟩:=hl
  obtain⟨h1,h2⟩:=hs
  obtain⟨f,hf⟩:∃f:Nat->Value,∀j c,((x.drop off).take k)[j]? =some c->w.cell? ⟨b,o+off+j,none⟩=some (f j)/\one (f j)=true/\RC F w m h c (f j):=by
   refine⟨fun j=>(w.cell? ⟨b,o+off+j,none⟩).getD undef,fun j c hj=> ?_⟩
   rw [zpp]at hj
   split at hj
   ·rw [List.getElem?_drop]at hj
    obtain⟨u,hu,ho,hr⟩:=hx _ c hj
    rw [<-Nat.add_assoc]at hu
    simp only [hu,Option.getD_some]
    exact⟨trivial,ho,hr⟩
   ·cases hj
  have hb:((x.drop off).take k).length=k:=by simp;omega
  have hd:=run_loadCells (P:=P) w ⟨b,o+off,none⟩ k f (fun j hj=>by
   rw [pB]
   exact(hf j _ (zqc (by omega))).1)
  refine⟨_,_,hK,?_,(List.range k).map f,rfl,by simp [hb],fun j c hj=> ?_⟩
  ·simp only [loadVar,Sem.run_bind,h1,Result.andThen_ok,if_true,h2,hd,Sem.run_pure]
  ·have he:j<k:=by have:=(zqb.1 hj).1;omega
   have:=hf j c hj
   exact⟨f j,by simp [he],this.2.1,this.2.2⟩
theorem gZ{s:Sem Value}{v:Value}{w':World}(hs:s.run P w= .ok v w'):(do pure (Next.value (<-s)):Sem Next).run P w= .ok (.value v) w':=by
 simp [Sem.run_bind,hs]
theorem RB.cell{b cap:Nat}{ab:AB}(hb:RB F w m h b cap ab){i:Nat}{x:List AC}(hx:ab.es[i]? =some x):
  ∀(j:Nat)(c:AC),x[j]? =some c->∃u,w.cell? ⟨b,i*ab.k+j,none⟩=some u/\one u=true/\RC F w m h c u:=fun j c hj=>by
 obtain⟨cur,h1,h2,h3,h4,h5⟩:=hb
 obtain⟨u,hu,ho,hr⟩:=(h5 i x hx).2 j c hj
 exact⟨u,by simp [World.cell?,h1,hu],ho,hr⟩
theorem RPL.cells{b o:Nat}{cs:List AC}(hr:RPL F w b o cs):∀(j:Nat)(c:AC),cs[j]? =some c->∃u,w.cell? ⟨b,o+j,none⟩=some u/\one u=true/\RC F w m h c u:=fun j c hj=>by
 obtain⟨u,hu,ho,hr⟩:=RPL.get hr hj
 refine⟨u,hu,ho,?_⟩
 cases c<;>first|exact hr|(unfold RP at hr;exact hr.elim)|(unfold RP at hr;exact hr)|trivial
end
section
variable {P:Program}{F:Nat->Prop}{w:World}{m:AM}{g h:AH}{n:Nat}{T:Nat->AV}{a:Act}{K:AV->List AB->Prop}
def yC(P:Program)(F:Nat->Prop)(w:World)(m:AM)(h:AH)(n:Nat)(s:Sem Next)(K:AV->List AB->Prop):Prop:=
 ∃res rows,K res rows/\∃v w',s.run P w= .ok (.value v) w'/\Out F w m h n res rows v w'
theorem fU{s:Sem Next}{res:AV}{v:Value}(hK:K res [])(hs:s.run P w= .ok (.value v) w)(hr:RV F w m h res v):yC P F w m h n s K:=⟨res,[],hK,v,w,hs,K6 hr⟩
variable {t:TypeId}
theorem JF{s:Sem Value}{q:Option Nat}{x:List AC}{b o off:Nat}(hl:ldA q x off (fun v=>K v []))(ha:s4 P t=some q)
  (hx:∀(j:Nat)(c:AC),x[j]? =some c->∃u,w.cell? ⟨b,o+j,none⟩=some u/\one u=true/\RC F w m h c u) (hs:s=loadVar t ⟨b,o+off,none⟩):
  yC P F w m h n (do pure (Next.value (<-s))) K:=by
 obtain⟨res,v,hK,hr,hv⟩:=xZ ha hx hl
 subst hs
 exact fU hK (gZ hr) hv
theorem pv{x:Operand}{y:AT}(hT:RTm F w m h T a)(he:ev T x= .t y):RT F w m h y (a.eval x):=by
 have:=iC hT x;rw [he]at this;exact this
theorem fi{x:Operand}{u:Value}(hT:RTm F w m h T a)(he:ev T x= .t (.c (.imm u))):a.eval x=u:=pv hT he
theorem RH.get{β:BP}(hH:RH F w m h){r:Nat}{ab ab':AB}{b cap:Nat}(h0:h[r]? =some (.live ab))(h1:h[r]? =some (.live ab'))(hm:m[r]? =some (some (b,cap))):ab'=ab/\¬F b/\RB F w m h b cap ab:=by
 rcases hH.at_ r ab h0 with⟨h2,_⟩|⟨b',cap',h2,h3,h4⟩
 ·rw [hm]at h2;cases h2
 rw [hm]at h2
 cases h2
 rw [h0]at h1
 cases h1
 exact⟨rfl,h3,h4⟩
theorem FI{β:BP}(hH:RH F w m h){z:List Value}{k:Nat}(hz:nh P t=some z)(hk:jt P t=some k)(hl:z.length=k)(h1:z.all one=true)(hK:K (.p n) [⟨t,k,[z.map .imm]⟩]):
  yC P F w m h n (do pure (Next.value (<-Instr.alloc t true (.tuple #[])))) K:=by
 obtain⟨i,v,hi,hv,rfl⟩:=iP hz
 refine⟨_,_,hK,.pointer (some ⟨w.heap.size,0,none⟩),w.alloc (.cells v.cells t),?_,J8 hH (cap:=1) (by simpa using hl) (zpk _) (by simp [maxLen]) (fun i x hx=> ?_) (fun m' h' h2 h3=> .inr ⟨_,_,_,h2,h3,by simp⟩)⟩
 ·simp [Instr.alloc,zeroValue,typeInfo,hi,hv,newVar,newRow]
 ·cases i with
  |succ i=>simp at hx
  |zero=>
   simp at hx
   subst hx
   refine⟨by simpa using hl,fun j c hj=> ?_⟩
   simp only [zqi,zqj]at hj
   obtain⟨u,hu,rfl⟩:=hj
   exact⟨u,by simpa using hu,xg h1 hu,rfl⟩
theorem JG{β:BP}(hC:Cp g h)(hH:RH F w m h){y:AT}{k:Nat}{v:Value}(hv:RT F w m h y v)(hk:jt P t=some k)(hl:y.cells.length=k)(h1:y.cells.all (okc g)=true)(hK:K (.p n) [⟨t,k,[y.cells]⟩]):
  yC P F w m h n (do pure (Next.value (<-Instr.box t v))) K:=by
 obtain⟨hs,hc⟩:=Bz hC hv h1
 refine⟨_,_,hK,.pointer (some ⟨w.heap.size,0,none⟩),w.alloc (.cells v.cells t),?_,J8 hH (cap:=1) (by rw [hs,hl];omega) (zpk _) (by simp [maxLen]) (fun i x hx=> ?_) (fun m' h' h2 h3=> .inr ⟨_,_,_,h2,h3,by simp⟩)⟩
 ·simp [Instr.box,newVar,newRow]
 ·cases i with
  |succ i=>simp at hx
  |zero=>
   simp at hx
   subst hx
   exact⟨hl,fun j c hj=>by simpa using hc j c hj⟩
theorem JQ{op:BinOp}{k k':IntKind}{x y:Int}{z:Value}(hz:bo op (.int k x) (.int k' y)=some z)(t:TypeId)(p q:Operand):(do eqGuard op t p q (.int k x) (.int k' y);binOp op t (.int k x) (.int k' y):Sem Value).run P w= .ok z w:=by
 have hg:(eqGuard op t p q (.int k x) (.int k' y)).run P w= .ok () w:=by
  unfold eqGuard;split<;>rfl
 simp only [Sem.run_bind,hg,Result.andThen_ok]
 unfold bo at hz
 simp only at hz
 by_cases hk:k=k'
 ·subst hk
  cases op<;>simp only [if_true,zqy]at hz<;>first
   |(cases hz;done)
   |(subst hz;simp [binOp,Op.intArith,Op.intCmp,Op.intBits];done)
   |(
    split at hz
    ·cases hz
    ·rename_i hb
     cases hz
     first|(simp [binOp,Op.intDiv,hb];done)|(simp [binOp,Op.shift,hb];done))
 ·cases op<;>simp only [if_neg hk]at hz<;>first
   |(cases hz;done)
   |(
    split at hz
    ·cases hz
    ·rename_i hb
     cases hz
     simp [binOp,Op.shift,hb])
theorem Ie{op:BinOp}{x y:Bool}{z:Value}(hz:bob op x y=some z)(t:TypeId)(ht:P.underlying t=some .bool)(p q:Operand):(do eqGuard op t p q (.bool x) (.bool y);binOp op t (.bool x) (.bool y):Sem Value).run P w= .ok z w:=by
 have hg:(eqGuard op t p q (.bool x) (.bool y)).run P w= .ok () w:=by
  unfold eqGuard;split<;>rfl
 simp only [Sem.run_bind,hg,Result.andThen_ok]
 have he:(Op.equal t (.bool x) (.bool y)).run P w= .ok (x==y) w:=by
  show(Op.equalIn (9999+1) t (.bool x) (.bool y)).run P w=_
  rw [Op.equalIn]
  simp only [Sem.run_bind,run_underlying ht,Result.andThen_ok]
  rfl
 unfold bob at hz
 split at hz<;>cases hz
 ·show(do pure (.bool (<-Op.equal t (.bool x) (.bool y))):Sem Value).run P w=_
  simp only [Sem.run_bind,he,Result.andThen_ok];rfl
 ·show(do pure (.bool (!(<-Op.equal t (.bool x) (.bool y)))):Sem Value).run P w=_
  simp only [Sem.run_bind,he,Result.andThen_ok];rfl
theorem II{op:UnOp}{x z:Value}(hz:uo op x=some z):(Op.unary op x).run P w= .ok z w:=by
 unfold uo at hz
 split at hz<;>cases hz<;>simp [Op.unary,Op.intArith]
end
section
variable {P:Program}{F:Nat->Prop}{w:World}{m:AM}{g h:AH}{n:Nat}{T:Nat->AV}{a:Act}{K:AV->List AB->Prop}
variable {t:TypeId}
theorem rJ{i d:Nat}{u:TypeId}(hf:kK P t i=some (d,u))(b o:Nat):(Instr.fieldAt t (.pointer (some ⟨b,o,none⟩)) i).run P w= .ok (.pointer (some ⟨b,o+d,none⟩)) w:=by
 obtain⟨fs,f,j,hu,ha,hj,hb,rfl,rfl⟩:=pt hf
 simp [Instr.fieldAt,run_underlying hu,ha,Instr.sureAddr,fieldPlace,sizeOf,typeInfo,hj,hb,pB]
theorem nB{t e:TypeId}{k by_:Nat}(he:gB P t=some (e,k,by_))(b o len cap:Nat)(kd:IntKind)(z:Int)(h0:0<=z)(h1:z<len):
  (Instr.indexAt t (.slice (some ⟨b,o,none⟩) len cap) (.int kd z)).run P w= .ok (.pointer (some ⟨b,o+z.toNat*k,none⟩)) w:=by
 obtain⟨hu,i,hi,rfl,_⟩:=jU he
 simp [Instr.indexAt,asIntOf,run_underlying hu,h0,h1,sizeOf,typeInfo,hi,pB]
theorem EL{q:Option Nat}(ha:s4 P t=some q){vs:List Value}{xs:List AC}{K:AV->Prop}{off:Nat}(hl:vs.length=xs.length)
  (hx:∀(j:Nat)(c:AC),xs[j]? =some c->∃u,vs[j]? =some u/\one u=true/\RC F w m h c u) (hd:ldA q xs off K):
  ∃res v,K res/\(part t vs.toArray off).run P w= .ok v w/\RV F w m h res v:=by
 have hs:=BI (w:=w) ha
 cases q with
 |none=>
  obtain⟨c,hc,hK⟩:=hd
  obtain⟨u,hu,ho,hr⟩:=hx off c hc
  simp only at hs
  exact⟨_,u,hK,by simp [part,hs,hu],hr⟩
 |some k=>
  obtain⟨hb,hK⟩:=hd
  obtain⟨h1,h2⟩:=hs
  refine⟨_,.agg (vs.toArray.extract off (off+k)),hK,by simp only [part,Sem.run_bind,h1,Result.andThen_ok,if_true,h2];rfl,(vs.drop off).take k,by rw [List.extract_toArray];simp [List.extract],by simp [hl],fun j c hj=> ?_⟩
  rw [zpp]at hj⊢
  split at hj
  ·rw [List.getElem?_drop]at hj⊢
   rw [if_pos (by assumption)]
   exact hx _ c hj
  ·cases hj
theorem H6{β:BP}(hC:Cp g h)(hT:RTm F w m h T a)(hH:RH F w m h){x:Operand}(hp:pop P T g n (.load t x) K):yC P F w m h n (do pure (Next.value (<-Instr.loadAt t (a.eval x)))) K:=by
 simp only [pop]at hp
 split at hp
 ·rename_i r i off q he hq
  split at hp
  ·rename_i ab hr
   obtain⟨y,hy,hl⟩:=hp
   rcases pv hT he with hg|⟨ab',b,cap,h1,h2,h3⟩
   ·exact(hC.gone hr hg).elim
   ·obtain rfl:=hC.live hr h1
    obtain⟨_,hF,hB⟩:=hH.get h1 h1 h2
    exact JF (b:=b) (o:=i*ab'.k) hl hq (hB.cell hy) (by simp [Instr.loadAt,h3,Instr.sureAddr])
  ·exact hp.elim
 ·rename_i cs off q he hq
  obtain⟨b,o,h1,h2,h3⟩:=pv hT he
  exact JF (b:=b) (o:=o) hp hq h3.cells (by simp [Instr.loadAt,h1,Instr.sureAddr])
 ·exact hp.elim
theorem yp(hC:Cp g h)(hT:RTm F w m h T a){x:Operand}{i:Nat}(hp:pop P T g n (.fieldAddr t x i) K):yC P F w m h n (do pure (Next.value (<-Instr.fieldAt t (a.eval x) i))) K:=by
 simp only [pop]at hp
 split at hp
 ·rename_i r j off d u he hf
  split at hp
  ·rename_i ab hr
   rcases pv hT he with hg|⟨ab',b,cap,h1,h2,h3⟩
   ·exact(hC.gone hr hg).elim
   ·exact fU hp (gZ (by rw [h3];exact rJ hf _ _)) (.inr ⟨ab',b,cap,h1,h2,by rw [Nat.add_assoc]⟩)
  ·exact hp.elim
 ·rename_i cs off d u he hf
  obtain⟨b,o,h1,h2,h3⟩:=pv hT he
  exact fU hp (gZ (by rw [h1];exact rJ hf _ _)) ⟨b,o,by rw [Nat.add_assoc],h2,h3⟩
 ·exact hp.elim
theorem FE(hC:Cp g h)(hT:RTm F w m h T a){x:Operand}{i:Nat}(hp:pop P T g n (.field t x i) K):yC P F w m h n (do pure (Next.value (<-Instr.field t (a.eval x) i))) K:=by
 simp only [pop]at hp
 split at hp
 ·rename_i xs d u he hf
  split at hp
  ·rename_i q hq
   obtain⟨vs,h1,h2,h3⟩:=pv hT he
   obtain⟨fs,f,j,hu,ha,hj,hb,rfl,rfl⟩:=pt hf
   obtain⟨res,v,hK,hr,hv⟩:=EL hq h2 h3 hp
   exact fU hK (gZ (by rw [h1];simp [Instr.field,run_underlying hu,ha,asAgg,hr])) hv
  ·exact hp.elim
 ·exact hp.elim
theorem yo{β:BP}(hC:Cp g h)(hT:RTm F w m h T a)(hH:RH F w m h){x i:Operand}(hp:pop P T g n (.indexAddr t x i) K):yC P F w m h n (do pure (Next.value (<-Instr.indexAt t (a.eval x) (a.eval i)))) K:=by
 simp only [pop]at hp
 split at hp
 ·rename_i xs kd z e k by_ he hi hE
  obtain⟨h0,y,hy,hf,hK⟩:=hp
  have hv:RP F w (.view xs) (a.eval x):=pv hT he
  unfold RP at hv
  obtain⟨p,cap,hd,h1,h2,h3⟩:=hv
  have ha:z.toNat<xs.length:=(zqb.1 hy).1
  rcases h3 with rfl|⟨b,o,k',rfl,hF,hE'⟩
  ·simp at ha
  ·obtain⟨hb,hL⟩:=RPE.get hE' hy
   rw [hf]at hb
   subst hb
   exact fU hK (gZ (by rw [hd,fi hT hi];exact nB hE b o _ cap kd z h0 (by omega))) ⟨b,o+z.toNat*k,rfl,hF,hL⟩
 ·rename_i r kd z e k by_ he hi hE
  split at hp
  ·rename_i ab hr
   obtain⟨hk,h0,ha,hK⟩:=hp
   rcases pv hT he with hg|⟨ab',h1,⟨b,cap,h2,h3⟩|⟨h2,h3,_⟩⟩
   ·exact(hC.gone hr hg).elim
   ·obtain rfl:=hC.live hr h1
    obtain⟨_,hF,hB⟩:=hH.get h1 h1 h2
    refine fU hK (gZ (by rw [h3,fi hT hi];exact nB hE b 0 _ cap kd z h0 (by omega))) (.inr ⟨ab',b,cap,h1,h2,by rw [hk];simp⟩)
   ·obtain rfl:=hC.live hr h1;omega
  ·exact hp.elim
 ·rename_i r lo nn kd z e k by_ he hi hE
  split at hp
  ·rename_i ab hr
   obtain⟨hk,h0,ha,hK⟩:=hp
   rcases pv hT he with hg|⟨ab',c,p,h1,h3,h8,h9,h10,h11⟩
   ·exact(hC.gone hr hg).elim
   ·obtain⟨b,cap,h2,hc⟩:=h11 (by omega)
    obtain rfl:=hC.live hr h1
    obtain⟨_,hF,hB⟩:=hH.get h1 h1 h2
    subst hc
    refine fU hK (gZ (by rw [h10,fi hT hi];exact nB hE b _ _ c kd z h0 (by omega))) (.inr ⟨ab',b,cap,h1,h2,by rw [hk,Nat.add_mul];simp⟩)
  ·exact hp.elim
 ·exact hp.elim
theorem Ck(hC:Cp g h)(hT:RTm F w m h T a){x:Operand}{i:Nat}(hp:pop P T g n (.extract x i) K):yC P F w m h n (do pure (Next.value (<-Instr.extract (a.eval x) i))) K:=by
 simp only [pop]at hp
 split at hp
 ·rename_i xs he
  obtain⟨y,hy,hK⟩:=hp
  have h0:=iC hT x
  rw [he]at h0
  obtain⟨vs,h1,h2,h3⟩:=h0
  obtain⟨u,hu,hr⟩:=h3 i y hy
  exact fU hK (gZ (by rw [h1];simp [Instr.extract,hu])) hr
 ·exact hp.elim
theorem Cl(hC:Cp g h)(hT:RTm F w m h T a){s d:TypeId}{x:Operand}(hp:pop P T g n (.convert s d x) K):yC P F w m h n (do pure (Next.value (<-convert s d (a.eval x)))) K:=by
 simp only [pop]at hp
 split at hp
 ·rename_i k0 z ks kd he hs hd
  refine fU hp (gZ (v:= .int kd (kd.wrap z)) ?_) rfl
  rw [fi hT he]
  simp [convert,run_underlying hs,run_underlying hd,Conv.intToInt]
 ·exact hp.elim
theorem yn{β:BP}(hC:Cp g h)(hT:RTm F w m h T a)(hH:RH F w m h){x y:Operand}(hp:pop P T g n (.makeSlice t x y) K):yC P F w m h n (do pure (Next.value (<-Instr.makeSlice t (a.eval x) (a.eval y)))) K:=by
 simp only [pop]at hp
 split at hp
 ·rename_i l c e k by_ hl hc hE
  obtain⟨rfl,h0,hb,hm,z,hz,hg,hk,h1,hK⟩:=hp
  obtain⟨hu,i,hi,rfl,rfl⟩:=jU hE
  obtain⟨i',v,hh,hv,rfl⟩:=iP hz
  rw [hi]at hh
  cases hh
  have he:=run_make (P:=P) w t e i v hu hi hv .i64 .i64 l l h0 (zpc _) (by omega) (by omega)
  refine⟨_,_,hK,_,_,gZ (by rw [fi hT hl,fi hT hc];exact he),J8 hH (cap:=l.toNat) (by simp [madeCells]) (by simp) (by simp [maxLen];omega) (fun j x hx=> ?_) (fun m' h' h2 h3=> .inr ⟨_,h2,.inl ⟨_,_,h3,by simp⟩⟩)⟩
  simp only [List.getElem?_replicate]at hx
  split at hx
  ·rename_i hj
   cases hx
   refine⟨by simpa using hg,fun d c hd=> ?_⟩
   simp only [zqi,zqj]at hd
   obtain⟨u,hf,rfl⟩:=hd
   have hn:d<i.size:=by rw [<-hg];exact(zqb.1 hf).1
   refine⟨u,?_,xg h1 hf,rfl⟩
   have ho:j*i.size+d<l.toNat*i.size:=by
    have:(j+1)*i.size<=l.toNat*i.size:=zpf _ hj
    rw [Nat.add_mul]at this;omega
   have ha:(j*i.size+d)%v.cells.size=d:=by
    have:v.cells.size=i.size:=by simpa using hg
    rw [this,Nat.add_comm,Nat.add_mul_mod_self_right,Nat.mod_eq_of_lt hn]
   simp only [madeCells]
   rw [Array.getElem?_map,Array.getElem?_range]
   simp only [ho,if_true,Option.map_some,ha]
   have hq:v.cells[d]? =some u:=by simpa using hf
   rw [getElem!_def,hq]
  ·cases hx
 ·exact hp.elim
end
section
variable {P:Program}{F:Nat->Prop}{w:World}{m:AM}{g h:AH}{n:Nat}{T:Nat->AV}{a:Act}{K:AV->List AB->Prop}
def KA(T:Nat->AV)(lo:Option Operand)(i:Nat):Prop:=match lo with|none=>i=0|some l=>match ev T l with| .t (.c (.imm (.int _ z)))=>0<=z/\i=z.toNat|_=>False
def KC(T:Nat->AV)(len:Nat)(hi:Option Operand)(i:Nat):Prop:=match hi with|none=>i=len|some l=>match ev T l with| .t (.c (.imm (.int _ z)))=>0<=z/\i=z.toNat|_=>False
variable {lo hi:Option Operand}
theorem BT(hT:RTm F w m h T a){len cap i j:Nat}(hl:KA T lo i)(hh:KC T len hi j)(h1:i<=j)(h2:j<=len)(h3:len<=cap):
  (Instr.sliceBounds true len cap (lo.map a.eval) (hi.map a.eval) none).run P w= .ok (i,j,cap) w:=by
 have eh:∀l,hi=some l->∃kd z,ev T l= .t (.c (.imm (.int kd z)))/\0<=z/\j=z.toNat:=by
  intro l hb
  subst hb
  simp only [KC]at hh
  split at hh
  ·rename_i kd z he;exact⟨kd,z,he,hh⟩
  ·exact hh.elim
 have el:∀l,lo=some l->∃kd z,ev T l= .t (.c (.imm (.int kd z)))/\0<=z/\i=z.toNat:=by
  intro l hb
  subst hb
  simp only [KA]at hl
  split at hl
  ·rename_i kd z he;exact⟨kd,z,he,hl⟩
  ·exact hl.elim
 cases hi with
 |none=>
  have hj:j=len:=hh
  subst hj
  cases lo with
  |none=>have ha:i=0:=hl;subst ha;simp [Instr.sliceBounds]
  |some l=>
   obtain⟨kd,z,he,h0,rfl⟩:=el l rfl
   have r1:=run_sliceBound (P:=P) w kd z j .sliceB h0 (by omega)
   simp [Instr.sliceBounds,fi hT he,r1]
 |some u=>
  obtain⟨ku,zu,hu,hc,rfl⟩:=eh u rfl
  have r2:=run_sliceBound (P:=P) w ku zu cap .sliceAcap hc (by omega)
  cases lo with
  |none=>have ha:i=0:=hl;subst ha;simp [Instr.sliceBounds,fi hT hu,r2]
  |some l=>
   obtain⟨kd,z,he,h0,rfl⟩:=el l rfl
   have r1:=run_sliceBound (P:=P) w kd z zu.toNat .sliceB h0 (by omega)
   simp [Instr.sliceBounds,fi hT he,fi hT hu,r1,r2]
variable {t:TypeId}
theorem FD{β:BP}(hC:Cp g h)(hT:RTm F w m h T a)(hH:RH F w m h){x:Operand}(hp:pop P T g n (.slice t x lo hi none) K):
  yC P F w m h n (do pure (Next.value (<-Instr.sliceAt t (a.eval x) (lo.map a.eval) (hi.map a.eval) none))) K:=by
 simp only [pop]at hp
 split at hp
 ·rename_i y e k by_ he hE
  split at hp
  ·rename_i len hlen
   obtain⟨i,j,hl,hh,hx,hj,hp⟩:=hp
   have hA:KA T lo i:=hl
   have hs:KC T len hi j:=hh
   obtain⟨hu,hf,ht,rfl,_⟩:=jU hE
   have hd:∀(p:Option Addr)(cap:Nat),len<=cap->(Instr.sliceAt t (.slice p len cap) (lo.map a.eval) (hi.map a.eval) none).run P w= .ok (sliced p i j cap hf.size) w:=by
    intro p cap hc
    have hb:=BT (P:=P) (w:=w) hT hA hs hx hj hc
    simp [Instr.sliceAt,run_underlying hu,Instr.slice,hb,sizeOf,typeInfo,ht,sliced]
   have hv:=pv hT he
   cases y with
   |imm u=>
    simp only at hp
    have hD:u= .slice none 0 0/\len=0:=by
     unfold Cb at hlen
     split at hlen
     ·rename_i heq;cases heq;simp at hlen;exact⟨rfl,hlen.symm⟩
     all_goals(first|(rename_i heq;cases heq;done)|cases hlen)
    obtain⟨rfl,rfl⟩:=hD
    have hm:a.eval x= .slice none 0 0:=hv
    have hw:i=0/\j=0:=by omega
    obtain⟨rfl,rfl⟩:=hw
    refine fU hp (gZ (by rw [hm];exact hd none 0 (zpk _))) ?_
    show RP F w (.view []) _
    unfold RP
    exact⟨none,0,by simp [sliced],by simp,by simp,.inl rfl⟩
   |view xs=>
    obtain⟨hk,hK⟩:=hp
    have ha:len=xs.length:=by simpa [Cb]using hlen.symm
    have ho:RP F w (.view xs) (a.eval x):=hv
    unfold RP at ho
    obtain⟨p,cap,hm,h1,h2,h3⟩:=ho
    subst ha
    refine fU hK (gZ (by rw [hm];exact hd p cap h1)) ?_
    show RP F w (.view _) _
    unfold RP
    have hn:((xs.take j).drop i).length=j-i:=by simp;omega
    refine⟨if cap=i then p else p.map (fun q=>q.add (i*hf.size)),cap-i,by rw [hn];rfl,by rw [hn];omega,by omega,?_⟩
    by_cases hz:i=j
    ·subst hz;left;simp
    ·rcases h3 with rfl|⟨b,o,k',rfl,hF,hE'⟩
     ·simp at hj;omega
     ·right
      have hy:k'=hf.size:=by
       cases xs with
       |nil=>simp at hj;omega
       |cons x0 xs=>unfold RPE at hE';rw [<-hE'.1];exact hk x0 (by simp)
      subst hy
      exact⟨b,o+i*hf.size,hf.size,by rw [if_neg (by omega)];simp [pB],hF,RPE.drop i (RPE.take j hE')⟩
   |own r=>
    simp only at hp
    split at hp
    ·rename_i ab hr
     obtain⟨hk,hK⟩:=hp
     have ha:len=ab.es.length:=by simp [Cb,hr]at hlen;exact hlen.symm
     rcases hv with hg|⟨ab',h1,⟨b,cap,h2,h3⟩|⟨h2,h3,h4⟩⟩
     ·exact(hC.gone hr hg).elim
     ·obtain rfl:=hC.live hr h1
      obtain⟨_,hF,hB⟩:=hH.get h1 h1 h2
      obtain⟨cur,_,_,hq,hG,_⟩:=hB
      subst ha
      refine fU hK (gZ (by rw [h3];exact hd _ cap hq)) (.inr ⟨ab',cap-i,_,h1,by omega,by omega,by omega,rfl,fun hz=>⟨b,cap,h2,?_⟩⟩)
      rw [if_neg (by omega),hk];simp [pB]
     ·obtain rfl:=hC.live hr h1
      subst ha
      refine fU hK (gZ (by rw [h4,h3]at *;exact hd none 0 (by omega))) (.inr ⟨ab',0-i,_,h1,by omega,by omega,by omega,rfl,fun hz=>by omega⟩)
    ·exact hp.elim
   |sub r l nn=>exact hp.elim
   |ptr r i off=>exact hp.elim
   |eptr cs off=>exact hp.elim
   |clo g rs=>exact hp.elim
   |fv bs xs=>exact hp.elim
   |old p xs=>exact hp.elim
   |dead=>exact hp.elim
  ·exact hp.elim
 ·exact hp.elim
theorem Hq{t e:TypeId}{k by_:Nat}(hE:gB P t=some (e,k,by_))(ty:TypeId)(p:Option Addr)(len cap:Nat):(Builtin.len_ #[t] ty #[.slice p len cap]).run P w= .ok (.int .i64 len) w:=by
 obtain⟨hu,_⟩:=jU hE
 simp [Builtin.len_,run_underlying hu,goInt]
theorem E9{β:BP}(hC:Cp g h)(hH:RH F w m h){y:AC}{v:Value}{len:Nat}(hv:RC F w m h y v)(hl:Cb g y=some len):∃p cap,v= .slice p len cap:=by
 cases y with
 |imm u=>
  have hu:v=u:=hv
  subst hu
  unfold Cb at hl
  split at hl
  ·rename_i heq;cases heq;simp at hl;subst hl;exact⟨_,_,rfl⟩
  all_goals(first|(rename_i heq;cases heq;done)|cases hl)
 |view xs=>
  have ha:RP F w (.view xs) v:=hv
  unfold RP at ha
  obtain⟨p,cap,rfl,_⟩:=ha
  simp [Cb]at hl
  subst hl
  exact⟨_,_,rfl⟩
 |own r=>
  simp only [Cb]at hl
  split at hl
  ·rename_i ab hr
   rcases hv with hg|⟨ab',h1,⟨b,cap,h2,rfl⟩|⟨h2,h3,rfl⟩⟩
   ·exact(hC.gone hr hg).elim
   ·obtain rfl:=hC.live hr h1;simp at hl;subst hl;exact⟨_,_,rfl⟩
   ·obtain rfl:=hC.live hr h1;simp at hl;subst hl;exact⟨_,_,by rw [h3]⟩
  ·cases hl
 |sub r lo nn=>
  simp only [Cb]at hl
  split at hl
  ·rename_i ab hr
   rcases hv with hg|⟨ab',c,p,h1,h3,h8,h9,rfl,h11⟩
   ·exact(hC.gone hr hg).elim
   ·simp at hl;subst hl;exact⟨_,_,rfl⟩
  ·cases hl
 |ptr r i off=>cases hl
 |eptr cs off=>cases hl
 |clo g rs=>cases hl
 |fv bs xs=>cases hl
 |old p xs=>cases hl
 |dead=>cases hl
def tb(P:Program)(t:TypeId)(xs:List Value):Value:=
 match P.underlying t with
 |some (.struct _)=> .agg xs.toArray
 |_=>xs.headD undef
def CP(P:Program)(t:TypeId)(zs:List Value):Prop:=
 (P.underlying t=some .bool/\∃a,zs=[.bool a])\/(∃kd,P.underlying t=some (.int kd)/\∃k a,zs=[.int k a])\/∃fs,P.underlying t=some (.struct fs)
theorem Al{D:Nat}{xs ys:List Value}{r:Bool}(hr:eqT P D t xs ys=some r):CP P t xs/\CP P t ys:=by
 cases D with
 |zero=>cases hr
 |succ D=>
  unfold eqT at hr
  split at hr
  ·rename_i hu
   split at hr
   ·exact⟨.inl ⟨hu,_,rfl⟩,.inl ⟨hu,_,rfl⟩⟩
   ·cases hr
  ·rename_i kd hu
   split at hr
   ·exact⟨.inr (.inl ⟨kd,hu,_,_,rfl⟩),.inr (.inl ⟨kd,hu,_,_,rfl⟩)⟩
   ·cases hr
  ·rename_i fs hu
   exact⟨.inr (.inr ⟨fs,hu⟩),.inr (.inr ⟨fs,hu⟩)⟩
  ·cases hr
theorem AP{k d:Nat}{xs:List Value}(hk:(P.info? t).map (·.size)=some k)(hE:CP P t ((xs.drop d).take k)):(part t xs.toArray d).run P w= .ok (tb P t ((xs.drop d).take k)) w:=by
 simp only [zqj]at hk
 obtain⟨i,hi,rfl⟩:=hk
 have hb:∀v,(xs.drop d).take i.size=[v]->xs[d]? =some v:=by
  intro v hv
  have:((xs.drop d).take i.size)[0]? =some v:=by rw [hv];rfl
  rw [zpp]at this
  split at this
  ·simpa using this
  ·cases this
 rcases hE with⟨hu,a,ha⟩|⟨kd,hu,k,a,ha⟩|⟨fs,hu⟩
 ·simp only [part,Sem.run_bind,isAgg,run_underlying hu,Result.andThen_ok,tb,hu,ha,List.headD_cons]
  simp [hb _ ha]
 ·simp only [part,Sem.run_bind,isAgg,run_underlying hu,Result.andThen_ok,tb,hu,ha,List.headD_cons]
  simp [hb _ ha]
 ·simp only [part,Sem.run_bind,isAgg,run_underlying hu,Result.andThen_ok,Sem.run_pure,if_true,sizeOf,typeInfo,tb,hu]
  simp [hi,List.extract_toArray,List.extract]
theorem DQ:∀(d:Nat)(t:TypeId)(xs ys:List Value)(r:Bool)(D:Nat),eqT P d t xs ys=some r->d<=D->(Op.equalIn D t (tb P t xs) (tb P t ys)).run P w= .ok r w
 |0,t,xs,ys,r,D,h,_=>by cases h
 |d+1,t,xs,ys,r,D,h,hD=>by
  obtain⟨D,rfl⟩:∃E,D=E+1:=⟨D-1,by omega⟩
  have h':=h
  unfold eqT at h
  split at h
  ·rename_i hu
   split at h
   ·cases h
    simp only [tb,hu,List.headD_cons]
    exact run_equalIn_bool' w D t _ _ hu
   ·cases h
  ·rename_i kd hu
   split at h
   ·split at h
    ·rename_i hk
     subst hk
     cases h
     simp only [tb,hu,List.headD_cons]
     exact run_equalIn_int w D t _ _ _ _ hu
    ·cases h
   ·cases h
  ·rename_i fs hu
   split at h
   ·cases h
   ·rename_i hst
    have hc:P.fieldsOf t=fs:=by unfold Program.fieldsOf;rw [hu]
    simp only [tb,hu]
    rw [run_equalIn_agg w D t _ _ (by rw [hc];exact hu) (by simpa using hst),hc]
    have hd:∀(l:List Field)(q:Bool),Kf P (eqT P d) xs ys l=some q->(Op.eqFields D xs.toArray ys.toArray l).run P w= .ok q w:=by
     intro l
     induction l with
     |nil=>intro q hq;cases hq;rfl
     |cons f l ih=>
      intro q hq
      unfold Kf at hq
      split at hq
      ·cases hq
      ·rename_i hnm
       split at hq
       ·rename_i k hk
        split at hq
        ·rename_i a b ha hb
         cases hq
         have p1:=AP (w:=w) (d:=f.offset) (xs:=xs) hk (Al ha).1
         have p2:=AP (w:=w) (d:=f.offset) (xs:=ys) hk (Al ha).2
         have p3:=DQ d f.type _ _ a D ha (by omega)
         simp only [Op.eqFields,ne_eq,hnm,not_false_eq_true,if_true,Sem.run_bind,p1,p2,p3,Result.andThen_ok]
         cases a
         ·simp
         ·simp [ih b hb]
        ·cases hq
       ·cases hq
    exact hd fs.toList r h
  ·cases h
end
section
variable {P:Program}{F:Nat->Prop}{w:World}{m:AM}{g h:AH}{n:Nat}{T:Nat->AV}{a:Act}{K:AV->List AB->Prop}
def BZ(cur:Array Value)(o:Nat)(vs:Array Value):Array Value:=vs.zipIdx.foldl (fun cs(c,j)=>cs.setIfInBounds (o+j) c) cur
theorem Kv(o:Nat):∀(l:List Value)(k:Nat)(cur:Array Value),(((l.zipIdx k).foldl (fun(cs:Array Value)(x:Value×Nat)=>cs.setIfInBounds (o+x.2) x.1) cur).size=cur.size)/\
  ∀p,((l.zipIdx k).foldl (fun(cs:Array Value)(x:Value×Nat)=>cs.setIfInBounds (o+x.2) x.1) cur)[p]? =if o+k<=p/\p<o+k+l.length/\p<cur.size then l[p-(o+k)]? else cur[p]?
 | [],k,cur=>⟨rfl,fun p=>by simp only [List.zipIdx_nil,List.foldl_nil,List.length_nil];rw [if_neg (by omega)]⟩
 |v::l,k,cur=>by
  have ih:=Kv o l (k+1) (cur.setIfInBounds (o+k) v)
  simp only [List.zipIdx_cons,List.foldl_cons]
  refine⟨by rw [ih.1];simp,fun p=> ?_⟩
  rw [ih.2 p]
  simp only [zqk,zqx]
  by_cases hp:p=o+k
  ·subst hp
   by_cases hs:o+k<cur.size
   ·rw [if_neg (by omega),if_pos (by omega),zqa,if_pos rfl,if_pos hs];simp
   ·rw [if_neg (by omega),if_neg (by omega),zqa,if_pos rfl,if_neg hs];simp;omega
  ·by_cases hc:o+(k+1)<=p/\p<o+(k+1)+l.length/\p<cur.size
   ·rw [if_pos hc,if_pos (by omega),show p-(o+k)=p-(o+(k+1))+1 by omega];rfl
   ·rw [if_neg hc,if_neg (by omega),zqa,if_neg (by omega)]
theorem AJ(cur:Array Value)(o:Nat)(vs:Array Value):BZ cur o vs=(vs.toList.zipIdx 0).foldl (fun(cs:Array Value)(x:Value×Nat)=>cs.setIfInBounds (o+x.2) x.1) cur:=by
 unfold BZ
 rw [<-Array.foldl_toList,Array.toList_zipIdx]
theorem uS(cur:Array Value)(o:Nat)(vs:Array Value):(BZ cur o vs).size=cur.size:=by rw [AJ];exact(Kv o vs.toList 0 cur).1
theorem rT(cur:Array Value)(o:Nat)(vs:Array Value)(p:Nat):(BZ cur o vs)[p]? =if o<=p/\p<o+vs.size/\p<cur.size then vs[p-o]? else cur[p]? :=by
 rw [AJ,(Kv o vs.toList 0 cur).2 p];simp
def RL(F:Nat->Prop)(w:World)(m:AM)(h:AH)(xs:List AC)(cur:Array Value):Prop:=cur.size=xs.length/\∀(j:Nat)(c:AC),xs[j]? =some c->∃u,cur[j]? =some u/\one u=true/\RC F w m h c u
variable {cur vs:Array Value}
theorem RL.put{xs ys:List AC}{d:Nat}(h1:RL F w m h xs cur)(h2:RL F w m h ys vs)(hd:d+ys.length<=xs.length):RL F w m h (pe xs d ys) (BZ cur d vs):=by
 refine⟨by rw [uS,h1.1];simp [pe];omega,fun j c hj=> ?_⟩
 rw [rT]
 unfold pe at hj
 by_cases hc:d<=j/\j<d+vs.size/\j<cur.size
 ·rw [if_pos hc]
  refine h2.2 (j-d) c ?_
  rw [zqC,zqg (by simp;omega),zqh (by simp [<-h2.1];omega)]at hj
  have:j-(xs.take d).length=j-d:=by simp;omega
  rwa [this]at hj
 ·rw [if_neg hc]
  refine h1.2 j c ?_
  rw [h2.1,h1.1]at hc
  have ha:j<xs.length:=by
   have:=(zqb.1 hj).1
   simp at this;omega
  by_cases hlt:j<d
  ·rw [zqC,zqh (by simp;omega),zpp,if_pos hlt]at hj
   exact hj
  ·rw [zqg (by simp;omega)]at hj
   simp only [zqe,List.length_take,List.getElem?_drop]at hj
   rwa [show d+ys.length+(j-(min d xs.length+ys.length))=j by omega]at hj
theorem RL.zero{z:List Value}(h1:z.all one=true):RL F w m h (z.map .imm) z.toArray:=⟨by simp,fun j c hj=>by
 simp only [zqi,zqj]at hj
 obtain⟨u,hu,rfl⟩:=hj
 exact⟨u,by simpa using hu,xg h1 hu,rfl⟩⟩
theorem RL.of(hC:Cp g h){y:AT}{v:Value}(hv:RT F w m h y v)(ho:y.cells.all (okc g)=true):RL F w m h y.cells v.cells:=Bz hC hv ho
theorem vh(hC:Cp g h)(hT:RTm F w m h T a){t:TypeId}{fs:Array Field}(hu:P.underlying t=some (.struct fs)){places:Array (Nat×Nat)}(hpl:∀(i:Nat)(f:Field)(j:TypeInfo),fs[i]? =some f->P.info? f.type=some j->places[i]? =some (f.offset,j.size)):
  ∀(ps:List (Nat×Operand))(cs:List AC)(cur:Array Value)(K:List AC->Prop),RL F w m h cs cur->kJ P T g t ps cs K->∃hb ha,K hb/\Instr.fill (places[·]?) cur (ps.map fun(i,x)=>(i,a.eval x))=some ha/\RL F w m h hb ha
 | [],cs,cur,K,hr,hf=>⟨cs,cur,hf,rfl,hr⟩
 |(i,x)::ps,cs,cur,K,hr,hf=>by
  simp only [kJ]at hf
  split at hf
  ·rename_i y d u he hfi
   obtain⟨hs,hd,ho,hf⟩:=hf
   obtain⟨hk,f,j,hg,hh,hj,hl,rfl,rfl⟩:=pt hfi
   rw [hu]at hg
   cases hg
   obtain⟨j',hc,hi⟩:=xH hs
   rw [hj]at hc
   cases hc
   have hv:=RL.of hC (pv hT he) ho
   obtain⟨hb,ha,h1,h2,h3⟩:=vh hC hT hu hpl ps _ _ K (hr.put hv hd) hf
   refine⟨hb,ha,h1,?_,h3⟩
   simp only [zqA,Instr.fill,hpl i f j hh hj]
   rw [if_neg (by simp only [Bool.or_eq_true,zqp];intro e0;rcases e0 with e1|e1<;>first|exact e1 (hv.1.trans hi.symm)|(have e2:=hv.1;have e3:=hr.1;omega))]
   exact h2
  ·exact hf.elim
theorem uT{α β:Type}(f:α->Option β):∀(l:List α)(r:List β),l.mapM f=some r->∀(i:Nat)(x:α),l[i]? =some x->∃y,f x=some y/\r[i]? =some y
 | [],r,h,i,x,hi=>by simp at hi
 |z::l,r,h,i,x,hi=>by
  simp only [List.mapM_cons,Option.bind_eq_bind,Option.bind_eq_some_iff,Option.pure_def,zqy]at h
  obtain⟨y,hy,r',hr,rfl⟩:=h
  cases i with
  |zero=>simp at hi;subst hi;exact⟨y,hy,rfl⟩
  |succ i=>simp at hi;obtain⟨y',h1,h2⟩:=uT f l r' hr i x hi;exact⟨y',h1,by simpa using h2⟩
variable {parts:Array (Nat×Operand)}
theorem FG(hC:Cp g h)(hT:RTm F w m h T a){t:TypeId}(hp:pop P T g n (.build t parts) K):yC P F w m h n (do pure (Next.value (<-Instr.build t (parts.map fun(i,x)=>(i,a.eval x))))) K:=by
 simp only [pop]at hp
 obtain⟨hc,hp⟩:=hp
 split at hp
 ·rename_i z hz
  obtain⟨h1,hp⟩:=hp
  obtain⟨it,v,hi,hv,rfl⟩:=iP hz
  unfold qT at hc
  split at hc
  ·rename_i fs hu
   obtain⟨pl,hd⟩:=Option.isSome_iff_exists.1 hc
   obtain⟨he,ha,hK,hf,hr⟩:=vh hC hT hu (places:=pl.toArray) (fun i f j hf hj=>by
    obtain⟨y,hy,hr⟩:=uT _ _ _ hd i f (by simpa using hf)
    simp only [hj,Option.map_some,zqy]at hy
    subst hy
    simpa using hr) parts.toList _ _ _ (RL.zero h1) hp
   have hb:P.built t (parts.map fun(i,x)=>(i,a.eval x)).toList=some ha:=by
    unfold Program.built
    simp only [hi,hu,hv,hd]
    simpa using hf
   refine fU hK (gZ (run_build w t _ ha hb)) ⟨ha.toList,by simp,by simpa using hr.1,fun j c hj=> ?_⟩
   obtain⟨u,h2,h3,h4⟩:=hr.2 j c hj
   exact⟨u,by simpa using h2,h3,h4⟩
  ·cases hc
 ·exact hp.elim
def RE(F:Nat->Prop)(w:World)(m:AM)(h:AH)(k:Nat)(es:LLA)(cur:Array Value):Prop:=
 cur.size=es.length*k/\∀(i:Nat)(x:List AC),es[i]? =some x->x.length=k/\∀(j:Nat)(c:AC),x[j]? =some c->∃u,cur[i*k+j]? =some u/\one u=true/\RC F w m h c u
theorem RE.put{k:Nat}{es:LLA}{i:Nat}{ys:List AC}(h1:RE F w m h k es cur)(h2:RL F w m h ys vs)(hk:ys.length=k)(hi:i<es.length):RE F w m h k (es.set i ys) (BZ cur (i*k) vs):=by
 refine⟨by rw [uS,h1.1];simp,fun p x hx=> ?_⟩
 rw [List.getElem?_set]at hx
 by_cases hip:i=p
 ·subst hip
  rw [if_pos rfl,if_pos hi]at hx
  cases hx
  refine⟨hk,fun j c hj=> ?_⟩
  obtain⟨u,hu,ho,hr⟩:=h2.2 j c hj
  have ha:j<ys.length:=(zqb.1 hj).1
  refine⟨u,?_,ho,hr⟩
  have hb:(i+1)*k<=es.length*k:=zpf _ hi
  rw [Nat.add_mul]at hb
  rw [rT,if_pos (by rw [h2.1,h1.1];omega),show i*k+j-i*k=j by omega]
  exact hu
 ·rw [if_neg hip]at hx
  obtain⟨hl,hc⟩:=h1.2 p x hx
  refine⟨hl,fun j c hj=> ?_⟩
  have ha:j<x.length:=(zqb.1 hj).1
  rw [rT,if_neg]
  ·exact hc j c hj
  ·rw [h2.1,hk]
   rcases Nat.lt_or_gt_of_ne hip with hlt|hlt
   ·have:(i+1)*k<=p*k:=zpf _ hlt
    rw [Nat.add_mul]at this;omega
   ·have:(p+1)*k<=i*k:=zpf _ hlt
    rw [Nat.add_mul]at this;omega
theorem sN(hC:Cp g h)(hT:RTm F w m h T a){k:Nat}(len:Nat):∀(ps:List (Nat×Operand))(es:LLA)(cur:Array Value)(K:LLA->Prop),es.length=len->RE F w m h k es cur->kI T g k ps es K->
  ∃hb ha,hb.length=len/\K hb/\Instr.fill (fun i=>some (i*k,k)) cur (ps.map fun(i,x)=>(i,a.eval x))=some ha/\RE F w m h k hb ha
 | [],es,cur,K,hlen,hr,hf=>⟨es,cur,hlen,hf,rfl,hr⟩
 |(i,x)::ps,es,cur,K,hlen,hr,hf=>by
  simp only [kI]at hf
  split at hf
  ·rename_i y he
   obtain⟨hk,hi,ho,hf⟩:=hf
   have hv:=RL.of hC (pv hT he) ho
   obtain⟨hb,ha,h0,h1,h2,h3⟩:=sN hC hT len ps _ _ K (by simpa using hlen) (hr.put hv hk hi) hf
   refine⟨hb,ha,h0,h1,?_,h3⟩
   have hc:(i+1)*k<=es.length*k:=zpf _ hi
   rw [Nat.add_mul]at hc
   simp only [zqA,Instr.fill]
   rw [if_neg (by simp only [Bool.or_eq_true,zqp];intro e0;rcases e0 with e1|e1<;>first|exact e1 (hv.1.trans hk)|(have e2:=hv.1;have e3:=hr.1;omega))]
   exact h2
  ·exact hf.elim
theorem wZ{β:BP}(hC:Cp g h)(hT:RTm F w m h T a)(hH:RH F w m h){t:TypeId}{len:Nat}(hp:pop P T g n (.buildSlice t len parts) K):
  yC P F w m h n (do pure (Next.value (<-Instr.buildSlice t len (parts.map fun(i,x)=>(i,a.eval x))))) K:=by
 simp only [pop]at hp
 split at hp
 ·rename_i e k by_ hE
  obtain⟨z,hz,hh,hk,hq,h1,hp⟩:=hp
  obtain⟨hu,i,hi,rfl,_⟩:=jU hE
  obtain⟨i',v,hm,hv,rfl⟩:=iP hz
  rw [hi]at hm
  cases hm
  have hw:v.cells.size=i.size:=by simpa using hh
  have hd:∀(zero:Array Value),(len*i.size≠0->zero=v.cells)->RE F w m h i.size (List.replicate len (v.cells.toList.map .imm)) ((Array.range (len*i.size)).map (zero[·%zero.size]!)):=by
   intro zero ha
   refine⟨by simp,fun p x hx=> ?_⟩
   simp only [List.getElem?_replicate]at hx
   split at hx
   ·rename_i hpl
    cases hx
    refine⟨by simpa using hh,fun j c hj=> ?_⟩
    simp only [zqi,zqj]at hj
    obtain⟨u,hg,rfl⟩:=hj
    have hn:j<i.size:=by rw [<-hh];exact(zqb.1 hg).1
    have ho:p*i.size+j<len*i.size:=by
     have:(p+1)*i.size<=len*i.size:=zpf _ hpl
     rw [Nat.add_mul]at this;omega
    have hy:=ha (by omega)
    subst hy
    refine⟨u,?_,xg h1 hg,rfl⟩
    have he:(p*i.size+j)%v.cells.size=j:=by rw [hw,Nat.add_comm,Nat.add_mul_mod_self_right,Nat.mod_eq_of_lt hn]
    rw [Array.getElem?_map,Array.getElem?_range]
    simp only [ho,if_true,Option.map_some,he]
    have ht:v.cells[j]? =some u:=by simpa using hg
    rw [getElem!_def,ht]
   ·cases hx
  obtain⟨zero,hA,ha⟩:∃zero:Array Value,((len*i.size=0/\zero= #[])\/(len*i.size≠0/\zero=v.cells))/\(len*i.size≠0->zero=v.cells):=by
   by_cases h0:len*i.size=0
   ·exact⟨#[],.inl ⟨h0,rfl⟩,fun hs=>absurd h0 hs⟩
   ·exact⟨v.cells,.inr ⟨h0,rfl⟩,fun _=>rfl⟩
  obtain⟨hD,hc,hb,hK,hf,hr⟩:=sN hC hT len parts.toList _ _ _ (by simp) (hd zero ha) hp
  refine⟨_,_,hK,.slice (some ⟨w.heap.size,0,none⟩) len len,w.alloc (.cells hc e),gZ ?_,J8 hH (cap:=len) (by rw [hr.1,hb]) (by omega) (by simp only [maxLen];have:=Nat.le_mul_of_pos_right len hk;omega) hr.2 (fun m' h' h2 h3=> .inr ⟨_,h2,.inl ⟨_,_,h3,by simp [hb]⟩⟩)⟩
  simp only [Instr.buildSlice,Sem.run_bind,run_underlying hu,Result.andThen_ok,sizeOf,typeInfo,run_program,hi,Sem.run_pure]
  rw [if_neg (by omega)]
  have hl:Instr.fill (fun x=>some (x*i.size,i.size)) ((Array.range (len*i.size)).map (zero[·%zero.size]!)) (parts.map fun x=>(x.1,a.eval x.2)).toList=some hc:=by simpa using hf
  rcases hA with⟨h0,rfl⟩|⟨h0,rfl⟩
  ·rw [if_pos h0]
   simp only [Sem.run_bind,Sem.run_pure,Result.andThen_ok,hl]
   simp [newRow]
  ·rw [if_neg h0]
   have hB:(zeroValue e).run P w= .ok v w:=by simp [zeroValue,typeInfo,hi,hv]
   simp only [Sem.run_bind,Sem.run_pure,Result.andThen_ok,hB,hl]
   simp [newRow]
 ·exact hp.elim
end
end Go.Proofs.YtckchgoblpgpbaaGreat.Am
