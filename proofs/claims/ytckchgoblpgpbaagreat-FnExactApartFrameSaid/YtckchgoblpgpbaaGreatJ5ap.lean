/- A part of AM, a framework of the prover own: functions of any program as maps of data. -/
import Derived.Test.YtckchgoblpgpbaaGreatJ5ao
set_option linter.unusedVariables false
set_option linter.unusedSimpArgs false
namespace Go.Proofs.YtckchgoblpgpbaaGreat.Am
open Go.RowKit
def SE(P:Program)(f:FuncId)(s:S3K)(M A:LLA)(args:List AT)(res:AV)(M' A':LLA):Prop:=
 Gr P f s M A args fun r m a tl=>r=res/\m=M'/\a=A'/\tl=[]
theorem jy{H:EH}{i:Nat}{x:EE}(h:nth H i=some x):(toH H)[i]? =some x.e:=by
 rw [fF]at h;simp [toH,h]
theorem Af{x:AV}(hp:gH x=true)(s:Nat->Nat):x.mv s=x:=by
 cases x with
 |t x=>exact congrArg AV.t (nv hp s)
 |tup xs=>
  refine congrArg AV.tup ?_
  have:∀(xs:List AT),xs.all oH=true->xs.map (AT.mv s)=xs:=fun xs=>by
   induction xs with
   |nil=>intro _;rfl
   |cons x xs ih=>intro h;simp only [zqD,zqs]at h;rw [zqA,nv h.1,ih h.2]
  exact this xs hp
variable {s:S3K}{P:Program}
theorem iP{n0 N:Nat}{β:BP}{g:Gd}(hβ:β=bp0)(hg:g= @G0 β P n0 N){H:EH}{f:FuncId}{args args':List AT}{K:AV->EH->Prop}(rb rm ra:Nat){M A M' A':LLA}{R:AV}
  (hc:SE P f s M A args' R M' A') (h0:nth H rb=some (.bx s.t0 s.k0 (s.pre++[.own rm,.own ra]))) (h1:nth H rm=some (.rw ⟨s.t1,s.k1,M⟩)) (h2:nth H ra=some (.rw ⟨s.t2,s.k2,A⟩)) (hnd:[rb,rm,ra].Nodup) (hp:s.pre.all dP=true) (hM:aC M=true) (hA:aC A=true)
  (ha:xV ([some rb,some rm,some ra]) (toH (hS s M A)) args' args) (hr:gH R=true)
  (hK:K R (afS s H rb rm ra M' A' [])):g .C f H args K:=
 Hh hβ hg rb rm ra hc h0 h1 h2 hnd hp hM hA ha fun res m a tl _ _⟨e1,e2,e3,e4⟩=>by
  subst e1 e2 e3 e4
  rw [Af hr]
  exact hK
variable {F:List AT->EH->Prop}{xs:List AT}
theorem qP{M1 A1:LLA}{R:AV}{eh:EH}(p q:Nat)
  (hF:F=mA 3 (fun res h'=>∃M' A' tl,h'=toH (hS2 s M' A' tl)/\aC M'=true/\aC A'=true/\(res=R/\M'=M1/\A'=A1/\tl=[])))
  (hx:mkV xs=R) (hR:gH R=true) (h0:nth eh 0=some (.bx s.t0 s.k0 (s.pre++[.own p,.own q]))) (h1:nth eh p=some (.rw ⟨s.t1,s.k1,M1⟩)) (h2:nth eh q=some (.rw ⟨s.t2,s.k2,A1⟩))
  (hnd:[0,p,q].Nodup) (hp:s.pre.all dP=true) (hM:aC M1=true) (hA:aC A1=true):F xs eh:=by
 subst hF
 refine .inl ⟨R,toH (hS2 s M1 A1 []),[some 0,none,none,some p,some q],wkM _ ⟨?_,trivial⟩ ?_ ?_ ⟨.inl rfl,.inl rfl,.inr rfl,trivial⟩ ⟨.inl rfl,.inl rfl,.inr ⟨_,jy h0⟩,trivial⟩,M1,A1,[],rfl,hM,hA,rfl,rfl,rfl,rfl⟩
 ·rw [hx];exact no hR
 ·refine⟨.inr ⟨_,_,jy h0,rfl,rfl,rfl,.inr ⟨?_,trivial⟩⟩,.inl rfl,.inl rfl,.inr ⟨_,_,jy h1,rfl,rfl,rfl,.inl ⟨rfl,hM⟩⟩,.inr ⟨_,_,jy h2,rfl,rfl,rfl,.inl ⟨rfl,hA⟩⟩,trivial⟩
  exact qk (k6 hp) zr2
 ·simpa using hnd
theorem AW{M1 A1 V:LLA}{R R':AV}{eh:EH}{t k:Nat}(p q r:Nat)
  (hF:F=mA 3 (fun res h'=>∃M' A' tl,h'=toH (hS2 s M' A' tl)/\aC M'=true/\aC A'=true/\(res=R/\M'=M1/\A'=A1/\tl=[.rw ⟨t,k,V⟩])))
  (hx:mkV xs=R') (hR:rnV [some 0,none,none,some p,some q,some r] (toH (hS2 s M1 A1 [.rw ⟨t,k,V⟩])) R R') (h0:nth eh 0=some (.bx s.t0 s.k0 (s.pre++[.own p,.own q]))) (h1:nth eh p=some (.rw ⟨s.t1,s.k1,M1⟩)) (h2:nth eh q=some (.rw ⟨s.t2,s.k2,A1⟩))
  (h3:nth eh r=some (.rw ⟨t,k,V⟩)) (hnd:[0,p,q,r].Nodup) (hp:s.pre.all dP=true) (hM:aC M1=true) (hA:aC A1=true) (hV:aC V=true):F xs eh:=by
 subst hF
 refine .inl ⟨R,toH (hS2 s M1 A1 [.rw ⟨t,k,V⟩]),[some 0,none,none,some p,some q,some r],wkM _ ⟨?_,trivial⟩ ?_ ?_ ⟨.inl rfl,.inl rfl,.inr rfl,trivial⟩ ⟨.inl rfl,.inl rfl,.inr ⟨_,jy h0⟩,trivial⟩,M1,A1,_,rfl,hM,hA,rfl,rfl,rfl,rfl⟩
 ·rw [hx];exact hR
 ·refine⟨.inr ⟨_,_,jy h0,rfl,rfl,rfl,.inr ⟨?_,trivial⟩⟩,.inl rfl,.inl rfl,.inr ⟨_,_,jy h1,rfl,rfl,rfl,.inl ⟨rfl,hM⟩⟩,.inr ⟨_,_,jy h2,rfl,rfl,rfl,.inl ⟨rfl,hA⟩⟩,.inr ⟨_,_,jy h3,rfl,rfl,rfl,.inl ⟨rfl,hV⟩⟩,trivial⟩
  exact qk (k6 hp) zr2
 ·simpa using hnd
theorem qw{s:Nat->Option (LLA)}:∀{xs:List AC},xs.all dP=true->xs.map (AC.seal s)=xs
 | [],_=>rfl
 |x::xs,hp=>by
  simp only [zqD,zqs]at hp
  rw [zqA,sH hp.1,qw hp.2]
theorem vr{f:FuncId}{M A M1 A1 V:LLA}{args:List AT}{R R':AV}{t k:Nat}(hc:Gr P f s M A args fun r m a tl=>r=R/\m=M1/\a=A1/\tl=[.rw ⟨t,k,V⟩])
  (hk:∀x∈V,x.length=k) (hd:∀x∈V,x.all dat=true) (hR:R.seal (sl1 5 V)=R') (hR':gH R'=true) (hp:s.pre.all dP=true):SE P f s M A args R' M1 A1:=by
 unfold SE Gr
 unfold Gr at hc
 refine yz hc fun res h'⟨m,a,tl,e,pm,pa,e1,e2,e3,e4⟩=> ?_
 subst e e1 e2 e3 e4
 refine⟨R',toH (hS2 s m a []),bH (sl1 5 V) (jh rfl hk hd) (Wk.weak (wkM [some 0,none,none,some 3,some 4] ⟨?_,trivial⟩ ?_ (by decide) ⟨.inl rfl,.inl rfl,.inr rfl,trivial⟩ ⟨.inl rfl,.inl rfl,.inr ⟨_,rfl⟩,trivial⟩)),m,a,[],rfl,pm,pa,rfl,rfl,rfl,rfl⟩
 ·show rnV _ _ R' (AV.seal (sl1 5 V) res)
  rw [hR];exact no hR'
 ·refine⟨.inr ⟨_,_,rfl,rfl,rfl,rfl,.inr ⟨?_,trivial⟩⟩,.inl rfl,.inl rfl,.inr ⟨_,_,rfl,rfl,rfl,rfl,.inl (bG pm)⟩,.inr ⟨_,_,rfl,rfl,rfl,rfl,.inl (bG pa)⟩,trivial⟩
  show rnL _ _ (s.pre++[AC.own 3,AC.own 4]) ((s.pre++[AC.own 3,AC.own 4]).map (AC.seal (sl1 5 V)))
  rw [List.map_append,qw hp]
  exact qk (k6 hp) zr2
end Go.Proofs.YtckchgoblpgpbaaGreat.Am
