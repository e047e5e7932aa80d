/- A part of AM, a framework of the prover own: functions of any program as maps of data. -/
import Derived.Test.YtckchgoblpgpbaaGreatJ6am
set_option linter.unusedVariables false
set_option linter.unusedSimpArgs false
namespace Go.Proofs.YtckchgoblpgpbaaGreat.Am
open Go.RowKit
def Bz(ρ0:List (Option Nat))(h' h:AH):List (Option Nat)->AH->Prop
 | [],[]=>True
 |some j::ρ,e::es=>(e= .gone\/∃ab ab',h[j]? =some (.live ab)/\e= .live ab'/\ab'.ty=ab.ty/\ab'.k=ab.k/\((ab'.es=ab.es/\aO ab.es=true)\/rnE ρ0 h' ab'.es ab.es))/\Bz ρ0 h' h ρ es
 |none::ρ,e::es=>(e= .gone\/∃ab',e= .live ab'/\ab'.es.length=0)/\Bz ρ0 h' h ρ es
 |_,_=>False
theorem px{ρ0:List (Option Nat)}{h' h:AH}:∀(ρ:List (Option Nat))(es:AH),Bz ρ0 h' h ρ es->ρ.length=es.length
 | [],[],_=>rfl
 |some _::ρ,e::es,hs=>by simp [px ρ es hs.2]
 |none::ρ,e::es,hs=>by simp [px ρ es hs.2]
 | [],_::_,hs=>hs.elim
 |some _::_,[],hs=>hs.elim
 |none::_,[],hs=>hs.elim
theorem s5{n0:Nat}{ρ0:List (Option Nat)}{h' h:AH}(hid:∀i,i<n0->h'[i]? =some .gone\/ρ0[i]? =some (some i)):∀(ρ:List (Option Nat))(es:AH)(pre:List (Option Nat))(pes:AH),pre++ρ=ρ0->pes++es=h'->pes.length=pre.length->Bz ρ0 h' h ρ es->rnH n0 ρ0 h' h pre.length es
 | [],[],pre,pes,_,_,_,_=>trivial
 |o::ρ,e::es,pre,pes,hp,hq,hl,hs=>by
  have e1:ρ0[pre.length]? =some o:=by rw [<-hp];simp
  have e2:h'[pre.length]? =some e:=by rw [<-hq,<-hl];simp
  have ha:Bz ρ0 h' h ρ es->rnH n0 ρ0 h' h (pre.length+1) es:=fun hb=>by
   have:=s5 hid ρ es (pre++[o]) (pes++[e]) (by simpa using hp) (by simpa using hq) (by simp [hl]) hb
   rwa [zqe,zqm]at this
  have hd:pre.length<n0->e= .gone\/ρ0[pre.length]? =some (some pre.length):=fun hi=>(hid _ hi).imp (fun h1=>by rw [e2]at h1;exact Option.some.inj h1) id
  unfold rnH
  cases o with
  |some j=>
   obtain⟨h1,h2⟩:=hs
   refine⟨hd,?_,ha h2⟩
   rcases h1 with rfl|⟨ab,ab',g1,rfl,g2,g3,g4⟩
   ·trivial
   ·simp only [e1,g1];exact⟨g2,g3,g4⟩
  |none=>
   obtain⟨h1,h2⟩:=hs
   refine⟨hd,?_,ha h2⟩
   rcases h1 with rfl|⟨ab',rfl,g2⟩
   ·trivial
   ·simp only [e1];exact g2
 | [],_::_,_,_,_,_,_,hs=>hs.elim
 |some _::_,[],_,_,_,_,_,hs=>hs.elim
 |none::_,[],_,_,_,_,_,hs=>hs.elim
def idM:Nat->List (Option Nat)->AH->Prop
 |0,_,_=>True
 |n+1,ρ,h'=>(h'[n]? =some .gone\/ρ[n]? =some (some n))/\idM n ρ h'
theorem zm{ρ:List (Option Nat)}{h':AH}:∀(n:Nat),idM n ρ h'->∀i,i<n->h'[i]? =some .gone\/ρ[i]? =some (some i)
 |0,_,i,hi=>absurd hi (Nat.not_lt_zero _)
 |n+1,hm,i,hi=>by
  by_cases h:i=n
  ·subst h;exact hm.1
  ·exact zm n hm.2 i (by omega)
def goM:Nat->AH->AH->Prop
 |0,_,_=>True
 |n+1,h,h'=>(h'[n]? =some .gone\/∃ab,h[n]? =some (.live ab))/\goM n h h'
theorem zr{h h':AH}:∀(n:Nat),goM n h h'->∀i,i<n->h[i]? =some .gone->h'[i]? =some .gone
 |0,_,i,hi,_=>absurd hi (Nat.not_lt_zero _)
 |n+1,hm,i,hi,hg=>by
  by_cases h:i=n
  ·subst h
   rcases hm.1 with h1|⟨ab,h1⟩
   ·exact h1
   ·rw [hg]at h1;cases h1
  ·exact zr n hm.2 i (by omega) hg
theorem wkM{n0:Nat}{T:Nat->AV}{h h':AH}{l':List (Nat×AV)}(ρ:List (Option Nat))(hk:rnK ρ h' T l')(hs:Bz ρ h' h ρ h')(hn:(ρ.filterMap id).Nodup)(hid:idM n0 ρ h')(hgo:goM n0 h h'):Wk n0 T h l' h' ρ:=by
 have hl:=px ρ h' hs
 have ha:=zm n0 hid
 refine⟨?_,zr n0 hgo,hn,s5 ha ρ h' [] [] rfl rfl rfl hs,hk⟩
 rcases Nat.eq_zero_or_pos n0 with h0|h0
 ·omega
 ·rcases ha (n0-1) (by omega)with h1|h1
  ·have:=(List.getElem?_eq_some_iff.1 h1).1;omega
  ·have:=(List.getElem?_eq_some_iff.1 h1).1;omega
def sl2(q p:Nat)(es fs:LLA):Nat->Option (LLA):=fun r=>match Nat.beq r q with|true=>some es|false=>match Nat.beq r p with|true=>some fs|false=>none
theorem Dz{h:AH}{q p t u k l:Nat}{es fs:LLA}(hq:h[q]? =some (.live ⟨t,k,es⟩))(hk:∀x∈es,x.length=k)(hd:∀x∈es,x.all dat=true)(hp:h[p]? =some (.live ⟨u,l,fs⟩))(hl:∀x∈fs,x.length=l)(he:∀x∈fs,x.all dat=true):lG h (sl2 q p es fs):=fun r ha hr=>by
 unfold sl2 at hr
 split at hr
 ·rename_i hb
  have:=Nat.eq_of_beq_eq_true hb
  subst this
  cases hr
  exact⟨_,hq,rfl,hk,hd⟩
 ·split at hr
  ·rename_i hb
   have:=Nat.eq_of_beq_eq_true hb
   subst this
   cases hr
   exact⟨_,hp,rfl,hl,he⟩
  ·cases hr
variable {F:List AT->EH->Prop}{xs:List AT}
theorem Ec{n:Nat}{Post:AV->AH->Prop}{eh:EH}(hF:F=jS n Post)(res':AV)(h':EH)(ρ:List (Option Nat))(hw:Wk n (fun _=>mkV xs) (toH eh) [(0,res')] (toH h') ρ)(hp:Post res' (toH h')):F xs eh:=by
 subst hF;exact .inl ⟨res',toH h',ρ,hw,hp⟩
theorem CS{Post:AV->List AB->Prop}{eh:EH}(hF:F=jS 0 (fun res h'=>∃rows,h'=rows.map .live/\Post res rows))(res':AV)(rows:List AB)(ρ:List (Option Nat))(hw:Wk 0 (fun _=>mkV xs) (toH eh) [(0,res')] (rows.map .live) ρ)(hp:Post res' rows):F xs eh:=by
 subst hF;exact .inl ⟨res',rows.map .live,ρ,hw,rows,rfl,hp⟩
variable {args:List AT}{P:Program}{f:FuncId}
theorem yD{h:AH}{Post Post':AV->AH->Prop}(hc: @Con bp0 P f h args Post)
  (hs:∀res h',Post res h'->∃hb h'', @je bp0 h.length 1 (lkT [(0,res)]) h' [(0,hb)] h''/\Post' hb h''): @Con bp0 P f h args Post':=
 ⟨hc.1,fun F w m vs hH hl ha=>(hc.2 F w m vs hH hl ha).mono fun e w'⟨v,res,h',m',F1,he,hpost,hG,st,hvv⟩=>by
  obtain⟨hb,h'',hw,hp⟩:=hs res h' hpost
  obtain⟨F2,m2,hd,r⟩:=hw F1 w m h {tmps:= #[v],defers:=[]} w' m' rfl ⟨fun d=>by
   cases d with
   |zero=>exact hvv
   |succ d=>exact(trivial:RC F1 w' m' h' .dead _),st.x,rfl,rfl⟩
  exact⟨v,hb,h'',m2,F2,he,hp,hG.comp hd,r.st.full (fun _ hx=>hx),r.tm 0⟩⟩
theorem mM{Post Post':AV->List AB->Prop}(hc:cj P f args Post)
  (hs:∀res rows,Post res rows->∃hb ha, @je bp0 0 1 (lkT [(0,res)]) (rows.map .live) [(0,hb)] (ha.map .live)/\Post' hb ha):cj P f args Post':=
 yD hc fun res h'⟨rows,e,hp⟩=>by
  subst e
  obtain⟨hb,ha,h1,h2⟩:=hs res rows hp
  exact⟨hb,_,h1,ha,rfl,h2⟩
theorem fB{t k:Nat}{V:LLA}(hc:cj P f args fun res ha=>res= .o 0/\ha=[⟨t,k,V⟩])(hk:∀x∈V,x.length=k)(hd:∀x∈V,x.all dat=true):
  cj P f args fun res ha=>res= .v V/\ha=[]:=
 mM hc fun res ha⟨e1,e2⟩=>by
  subst e1 e2
  exact⟨.v V,[],bS (sl1 0 V) (kP rfl hk hd) (Wk.weak (wkG [] zr1 trivial (by decide) aw)),rfl,rfl⟩
structure S3K where
 t0:Nat
 k0:Nat
 pre:List AC
 t1:Nat
 k1:Nat
 t2:Nat
 k2:Nat
def hS(s:S3K)(M A:LLA):EH:=[.bx s.t0 s.k0 (s.pre++[.own 1,.own 2]),.rw ⟨s.t1,s.k1,M⟩,.rw ⟨s.t2,s.k2,A⟩]
end Go.Proofs.YtckchgoblpgpbaaGreat.Am
