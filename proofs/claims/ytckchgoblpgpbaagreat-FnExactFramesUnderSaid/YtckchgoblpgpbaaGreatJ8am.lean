/- A part of AM, a framework of the prover own: functions of any program as maps of data. -/
import Derived.Test.YtckchgoblpgpbaaGreatJ8al
set_option linter.unusedVariables false
set_option linter.unusedSimpArgs false
namespace Go.Proofs.YtckchgoblpgpbaaGreat.Am
open Go.RowKit
def Iu(ρ0:List (Option Nat))(h' h:AH):List (Option Nat)->AH->Prop
 | [],[]=>True
 |some j::ρ,e::es=>(e= .gone\/∃ab ab',h[j]? =some (.live ab)/\e= .live ab'/\ab'.ty=ab.ty/\ab'.k=ab.k/\((ab'.es=ab.es/\ay ab.es=true)\/rnE ρ0 h' ab'.es ab.es))/\Iu ρ0 h' h ρ es
 |none::ρ,e::es=>(e= .gone\/∃ab',e= .live ab'/\ab'.es.length=0)/\Iu ρ0 h' h ρ es
 |_,_=>False
theorem vO{ρ0:List (Option Nat)}{h' h:AH}:∀(ρ:List (Option Nat))(es:AH),Iu ρ0 h' h ρ es->ρ.length=es.length
 | [],[],_=>rfl
 |some _::ρ,e::es,hs=>by simp [vO ρ es hs.2]
 |none::ρ,e::es,hs=>by simp [vO ρ es hs.2]
 | [],_::_,hs=>hs.elim
 |some _::_,[],hs=>hs.elim
 |none::_,[],hs=>hs.elim
theorem Au{n0:Nat}{ρ0:List (Option Nat)}{h' h:AH}(hid:∀i,i<n0->h'[i]? =some .gone\/ρ0[i]? =some (some i)):∀(ρ:List (Option Nat))(es:AH)(pre:List (Option Nat))(pes:AH),pre++ρ=ρ0->pes++es=h'->pes.length=pre.length->Iu ρ0 h' h ρ es->rnH n0 ρ0 h' h pre.length es
 | [],[],pre,pes,_,_,_,_=>trivial
 |o::ρ,e::es,pre,pes,hp,hq,hl,hs=>by
  have e1:ρ0[pre.length]? =some o:=by rw [<-hp];simp
  have e2:h'[pre.length]? =some e:=by rw [<-hq,<-hl];simp
  have ha:Iu ρ0 h' h ρ es->rnH n0 ρ0 h' h (pre.length+1) es:=fun hb=>by
   have:=Au hid ρ es (pre++[o]) (pes++[e]) (by simpa using hp) (by simpa using hq) (by simp [hl]) hb
   rwa [zqe,zqm]at this
  have hd:pre.length<n0->e= .gone\/ρ0[pre.length]? =some (some pre.length):=fun hi=>(hid _ hi).imp (fun h1=>by rw [e2]at h1;exact Option.some.inj h1) id
  unfold rnH
  cases o with
  |some j=>
   obtain⟨h1,h2⟩:=hs
   refine⟨hd,?_,ha h2⟩
   rcases h1 with rfl|⟨ab,ab',g1,rfl,g2,g3,g4⟩
   ·trivial
   ·simp only [e1,g1];exact⟨g2,g3,g4⟩
  |none=>
   obtain⟨h1,h2⟩:=hs
   refine⟨hd,?_,ha h2⟩
   rcases h1 with rfl|⟨ab',rfl,g2⟩
   ·trivial
   ·simp only [e1];exact g2
 | [],_::_,_,_,_,_,_,hs=>hs.elim
 |some _::_,[],_,_,_,_,_,hs=>hs.elim
 |none::_,[],_,_,_,_,_,hs=>hs.elim
def idM:Nat->List (Option Nat)->AH->Prop
 |0,_,_=>True
 |n+1,ρ,h'=>(h'[n]? =some .gone\/ρ[n]? =some (some n))/\idM n ρ h'
theorem GD{ρ:List (Option Nat)}{h':AH}:∀(n:Nat),idM n ρ h'->∀i,i<n->h'[i]? =some .gone\/ρ[i]? =some (some i)
 |0,_,i,hi=>absurd hi (zpq _)
 |n+1,hm,i,hi=>by
  by_cases h:i=n
  ·subst h;exact hm.1
  ·exact GD n hm.2 i (by omega)
def goM:Nat->AH->AH->Prop
 |0,_,_=>True
 |n+1,h,h'=>(h'[n]? =some .gone\/∃ab,h[n]? =some (.live ab))/\goM n h h'
theorem GJ{h h':AH}:∀(n:Nat),goM n h h'->∀i,i<n->h[i]? =some .gone->h'[i]? =some .gone
 |0,_,i,hi,_=>absurd hi (zpq _)
 |n+1,hm,i,hi,hg=>by
  by_cases h:i=n
  ·subst h
   rcases hm.1 with h1|⟨ab,h1⟩
   ·exact h1
   ·rw [hg]at h1;cases h1
  ·exact GJ n hm.2 i (by omega) hg
theorem wkM{n0:Nat}{T:Nat->AV}{h h':AH}{l':List (Nat×AV)}(ρ:List (Option Nat))(hk:rnK ρ h' T l')(hs:Iu ρ h' h ρ h')(hn:(ρ.filterMap id).Nodup)(hid:idM n0 ρ h')(hgo:goM n0 h h'):Wk n0 T h l' h' ρ:=by
 have hl:=vO ρ h' hs
 have ha:=GD n0 hid
 refine⟨?_,GJ n0 hgo,hn,Au ha ρ h' [] [] rfl rfl rfl hs,hk⟩
 rcases Nat.eq_zero_or_pos n0 with h0|h0
 ·omega
 ·rcases ha (n0-1) (by omega)with h1|h1
  ·have:=(zqb.1 h1).1;omega
  ·have:=(zqb.1 h1).1;omega
def sl2(q p:Nat)(es fs:LLA):Nat->Option (LLA):=fun r=>match Nat.beq r q with|true=>some es|false=>match Nat.beq r p with|true=>some fs|false=>none
theorem Hp{h:AH}{q p t u k l:Nat}{es fs:LLA}(hq:h[q]? =some (.live ⟨t,k,es⟩))(hk:∀x∈es,x.length=k)(hd:∀x∈es,x.all dat=true)(hp:h[p]? =some (.live ⟨u,l,fs⟩))(hl:∀x∈fs,x.length=l)(he:∀x∈fs,x.all dat=true):qi h (sl2 q p es fs):=fun r ha hr=>by
 unfold sl2 at hr
 split at hr
 ·rename_i hb
  have:=Nat.eq_of_beq_eq_true hb
  subst this
  cases hr
  exact⟨_,hq,rfl,hk,hd⟩
 ·split at hr
  ·rename_i hb
   have:=Nat.eq_of_beq_eq_true hb
   subst this
   cases hr
   exact⟨_,hp,rfl,hl,he⟩
  ·cases hr
variable {F:List AT->EH->Prop}{xs:List AT}
theorem K0{n:Nat}{Post:AV->AH->Prop}{eh:EH}(hF:F=lv n Post)(res':AV)(h':EH)(ρ:List (Option Nat))(hw:Wk n (fun _=>mkV xs) (toH eh) [(0,res')] (toH h') ρ)(hp:Post res' (toH h')):F xs eh:=by
 subst hF;exact .inl ⟨res',toH h',ρ,hw,hp⟩
theorem Fv{Post:AV->List AB->Prop}{eh:EH}(hF:F=lv 0 (fun res h'=>∃rows,h'=rows.map .live/\Post res rows))(res':AV)(rows:List AB)(ρ:List (Option Nat))(hw:Wk 0 (fun _=>mkV xs) (toH eh) [(0,res')] (rows.map .live) ρ)(hp:Post res' rows):F xs eh:=by
 subst hF;exact .inl ⟨res',rows.map .live,ρ,hw,rows,rfl,hp⟩
variable {P:Program}{f:FuncId}{args:List AT}
theorem Bw{h:AH}{Post Post':AV->AH->Prop}(hc: @Con bp0 P f h args Post)
  (hs:∀res h',Post res h'->∃hb h'', @qN bp0 h.length 1 (lkT [(0,res)]) h' [(0,hb)] h''/\Post' hb h''): @Con bp0 P f h args Post':=
 ⟨hc.1,fun F w m vs hH hl ha=>(hc.2 F w m vs hH hl ha).mono fun e w'⟨v,res,h',m',F1,he,hpost,hG,st,hvv⟩=>by
  obtain⟨hb,h'',hw,hp⟩:=hs res h' hpost
  obtain⟨F2,m2,hd,r⟩:=hw F1 w m h {tmps:= #[v],defers:=[]} w' m' rfl ⟨fun d=>by
   cases d with
   |zero=>exact hvv
   |succ d=>exact(trivial:RC F1 w' m' h' .dead _),st.x,rfl,rfl⟩
  exact⟨v,hb,h'',m2,F2,he,hp,hG.comp hd,r.st.full (fun _ hx=>hx),r.tm 0⟩⟩
theorem xQ{Post Post':AV->List AB->Prop}(hc:bS P f args Post)
  (hs:∀res rows,Post res rows->∃hb ha, @qN bp0 0 1 (lkT [(0,res)]) (rows.map .live) [(0,hb)] (ha.map .live)/\Post' hb ha):bS P f args Post':=
 Bw hc fun res h'⟨rows,e,hp⟩=>by
  subst e
  obtain⟨hb,ha,h1,h2⟩:=hs res rows hp
  exact⟨hb,_,h1,ha,rfl,h2⟩
theorem fZ{t k:Nat}{V:LLA}(hc:bS P f args fun res ha=>res= .o 0/\ha=[⟨t,k,V⟩])(hk:∀x∈V,x.length=k)(hd:∀x∈V,x.all dat=true):
  bS P f args fun res ha=>res= .v V/\ha=[]:=
 xQ hc fun res ha⟨e1,e2⟩=>by
  subst e1 e2
  exact⟨.v V,[],bK (sl1 0 V) (jL rfl hk hd) (Wk.weak (wkG [] zr1 trivial (by decide) aB)),rfl,rfl⟩
structure S3K where
 t0:Nat
 k0:Nat
 pre:List AC
 t1:Nat
 k1:Nat
 t2:Nat
 k2:Nat
def hS(s:S3K)(M A:LLA):EH:=[.bx s.t0 s.k0 (s.pre++[.own 1,.own 2]),.rw ⟨s.t1,s.k1,M⟩,.rw ⟨s.t2,s.k2,A⟩]
def hS2(s:S3K)(M A:LLA)(tl:EH):EH:= .bx s.t0 s.k0 (s.pre++[.own 3,.own 4]):: .gn:: .gn:: .rw ⟨s.t1,s.k1,M⟩:: .rw ⟨s.t2,s.k2,A⟩::tl
def JY(P:Program)(f:FuncId)(s:S3K)(M A:LLA)(args:List AT)(Post:AV->LLA->LLA->EH->Prop):Prop:=
 @Con bp0 P f (toH (hS s M A)) args fun res h'=>∃M' A' tl,h'=toH (hS2 s M' A' tl)/\ay M'=true/\ay A'=true/\Post res M' A' tl
theorem r6{s:Nat->Nat}:∀{xs:List AC},xs.all dx=true->xs.map (AC.mv s)=xs
 | [],_=>rfl
 |x::xs,hp=>by
  simp only [zqD,zqs]at hp
  rw [zqA,ot hp.1,r6 hp.2]
theorem r7{s:Nat->Nat}:∀{es:LLA},ay es=true->es.map (fun x=>x.map (AC.mv s))=es
 | [],_=>rfl
 |x::es,hp=>by
  unfold ay at hp
  simp only [zqD,zqs]at hp
  rw [zqA,r6 hp.1,r7 hp.2]
theorem l8{ρ:List (Option Nat)}{h':AH}:∀{xs:List AC},xs.all dx=true->rnL ρ h' xs xs
 | [],_=>trivial
 |x::xs,hp=>by
  simp only [zqD,zqs]at hp
  exact⟨xO hp.1,l8 hp.2⟩
theorem rM{ρ:List (Option Nat)}{h':AH}:∀{as bs cs ds:List AC},rnL ρ h' as bs->rnL ρ h' cs ds->rnL ρ h' (as++cs) (bs++ds)
 | [],[],_,_,_,h=>h
 |a::as,b::bs,_,_,h1,h2=>⟨h1.1,rM h1.2 h2⟩
 | [],_::_,_,_,h,_=>h.elim
 |_::_,[],_,_,h,_=>h.elim
def afS(s:S3K)(H:EH)(rb rm ra:Nat)(M' A':LLA)(tl:EH):EH:=
 ((H.set rb (.bx s.t0 s.k0 (s.pre++[.own (mU H),.own (mU H).succ]))).set rm .gn).set ra .gn++(.rw ⟨s.t1,s.k1,M'⟩:: .rw ⟨s.t2,s.k2,A'⟩::tl)
theorem KP{n0 N:Nat}{β:BP}{g:Gd}(hβ:β=bp0)(hg:g= @G0 β P n0 N){H:EH}{args args':List AT}{K:AV->EH->Prop}(rb rm ra:Nat){s:S3K}{M A:LLA}{Post:AV->LLA->LLA->EH->Prop}
  (hc:JY P f s M A args' Post) (h0:nth H rb=some (.bx s.t0 s.k0 (s.pre++[.own rm,.own ra]))) (h1:nth H rm=some (.rw ⟨s.t1,s.k1,M⟩)) (h2:nth H ra=some (.rw ⟨s.t2,s.k2,A⟩)) (hnd:[rb,rm,ra].Nodup) (hp:s.pre.all dx=true) (hM:ay M=true) (hA:ay A=true)
  (ha:AD ([some rb,some rm,some ra]) (toH (hS s M A)) args' args)
  (hK:∀res M' A' tl,ay M'=true->ay A'=true->Post res M' A' tl->K (res.mv (plc [rb,rm,ra] (mU H))) (afS s H rb rm ra M' A' (tl.map (EE.mv (plc [rb,rm,ra] (mU H)))))):g .C f H args K:=by
 subst hβ
 have hb:∀{r:Nat}{e:EE},nth H r=some e->r<H.length:=fun{r e} h=>by
  rw [fF]at h;exact(zqb.1 h).1
 refine D0 hg (h:=hS s M A) (Post:=fun res eh=>∃M' A' tl,eh=hS2 s M' A' tl/\ay M'=true/\ay A'=true/\Post res M' A' tl) [rb,rm,ra] (hc.mono fun res h'⟨M',A',tl,e1,e2⟩=>⟨_,e1.symm,M',A',tl,rfl,e2⟩) hnd ?_ ?_ ha ?_
 ·intro r hr
  simp only [zph,List.not_mem_nil,or_false]at hr
  rcases hr with rfl|rfl|rfl
  ·exact hb h0
  ·exact hb h1
  ·exact hb h2
 ·have e1:rnL ([rb,rm,ra].map some) (toH (hS s M A)) (s.pre++[AC.own 1,AC.own 2]) (s.pre++[AC.own rm,AC.own ra]):=
   rM (ρ:=[some rb,some rm,some ra]) (h':=toH (hS s M A)) (as:=s.pre) (bs:=s.pre) (cs:=[.own 1,.own 2]) (ds:=[.own rm,.own ra]) (l8 hp) zr2
  exact⟨⟨⟨s.t0,s.k0,[s.pre++[.own 1,.own 2]]⟩,⟨s.t0,s.k0,[s.pre++[.own rm,.own ra]]⟩,rfl,by rw [h0];rfl,rfl,rfl,.inr ⟨e1,zpt⟩⟩,⟨⟨s.t1,s.k1,M⟩,⟨s.t1,s.k1,M⟩,rfl,by rw [h1];rfl,rfl,rfl,.inl ⟨rfl,hM⟩⟩,⟨⟨s.t2,s.k2,A⟩,⟨s.t2,s.k2,A⟩,rfl,by rw [h2];rfl,rfl,rfl,.inl ⟨rfl,hA⟩⟩,zpt⟩
 ·rintro res eh ⟨M',A',tl,rfl,pM,pA,hpost⟩
  have:=hK res M' A' tl pM pA hpost
  rw [dy]at this
  have e:dp (plc [rb,rm,ra] H.length) [rb,rm,ra] H (hS2 s M' A' tl)=afS s H rb rm ra M' A' (tl.map (EE.mv (plc [rb,rm,ra] H.length))):=by
   unfold hS2 afS
   simp only [dp,EE.mv,List.map_append,zqA,List.map_nil,AC.mv,AB.mv,r6 hp,r7 pM,r7 pA,dy]
   rfl
  rw [e]
  exact this
end Go.Proofs.YtckchgoblpgpbaaGreat.Am
