/- A part of AM, a framework of the prover own: functions of any program as maps of data. -/
import Derived.Test.YtckchgoblpgpbaaGreatJ8aq
set_option linter.unusedVariables false
set_option linter.unusedSimpArgs false
namespace Go.Proofs.YtckchgoblpgpbaaGreat.Am
open Go.RowKit
def SE(P:Program)(f:FuncId)(s:S3K)(M A:LLA)(args:List AT)(res:AV)(M' A':LLA):Prop:=
 JY P f s M A args fun r m a tl=>r=res/\m=M'/\a=A'/\tl=[]
theorem jX{H:EH}{i:Nat}{x:EE}(h:nth H i=some x):(toH H)[i]? =some x.e:=by
 rw [fF]at h;simp [toH,h]
theorem C9{x:AV}(hp:dv x=true)(s:Nat->Nat):x.mv s=x:=by
 cases x with
 |t x=>exact congrArg AV.t (ou hp s)
 |tup xs=>
  refine congrArg AV.tup ?_
  have:∀(xs:List AT),xs.all p8=true->xs.map (AT.mv s)=xs:=fun xs=>by
   induction xs with
   |nil=>intro _;rfl
   |cons x xs ih=>intro h;simp only [zqD,zqs]at h;rw [zqA,ou h.1,ih h.2]
  exact this xs hp
variable {s:S3K}{P:Program}
theorem gl{n0 N:Nat}{β:BP}{g:Gd}(hβ:β=bp0)(hg:g= @G0 β P n0 N){H:EH}{f:FuncId}{args args':List AT}{K:AV->EH->Prop}(rb rm ra:Nat){M A M' A':LLA}{R:AV}
  (hc:SE P f s M A args' R M' A') (h0:nth H rb=some (.bx s.t0 s.k0 (s.pre++[.own rm,.own ra]))) (h1:nth H rm=some (.rw ⟨s.t1,s.k1,M⟩)) (h2:nth H ra=some (.rw ⟨s.t2,s.k2,A⟩)) (hnd:[rb,rm,ra].Nodup) (hp:s.pre.all dx=true) (hM:ay M=true) (hA:ay A=true)
  (ha:AD ([some rb,some rm,some ra]) (toH (hS s M A)) args' args) (hr:dv R=true)
  (hK:K R (afS s H rb rm ra M' A' [])):g .C f H args K:=
 KP hβ hg rb rm ra hc h0 h1 h2 hnd hp hM hA ha fun res m a tl _ _⟨e1,e2,e3,e4⟩=>by
  subst e1 e2 e3 e4
  rw [C9 hr]
  exact hK
variable {F:List AT->EH->Prop}{xs:List AT}
theorem sK{M1 A1:LLA}{R:AV}{eh:EH}(p q:Nat)
  (hF:F=lv 3 (fun res h'=>∃M' A' tl,h'=toH (hS2 s M' A' tl)/\ay M'=true/\ay A'=true/\(res=R/\M'=M1/\A'=A1/\tl=[])))
  (hx:mkV xs=R) (hR:dv R=true) (h0:nth eh 0=some (.bx s.t0 s.k0 (s.pre++[.own p,.own q]))) (h1:nth eh p=some (.rw ⟨s.t1,s.k1,M1⟩)) (h2:nth eh q=some (.rw ⟨s.t2,s.k2,A1⟩))
  (hnd:[0,p,q].Nodup) (hp:s.pre.all dx=true) (hM:ay M1=true) (hA:ay A1=true):F xs eh:=by
 subst hF
 refine .inl ⟨R,toH (hS2 s M1 A1 []),[some 0,none,none,some p,some q],wkM _ ⟨?_,zpt⟩ ?_ ?_ ⟨.inl rfl,.inl rfl,.inr rfl,zpt⟩ ⟨.inl rfl,.inl rfl,.inr ⟨_,jX h0⟩,zpt⟩,M1,A1,[],rfl,hM,hA,rfl,rfl,rfl,rfl⟩
 ·rw [hx];exact iR hR
 ·refine⟨.inr ⟨_,_,jX h0,rfl,rfl,rfl,.inr ⟨?_,zpt⟩⟩,.inl rfl,.inl rfl,.inr ⟨_,_,jX h1,rfl,rfl,rfl,.inl ⟨rfl,hM⟩⟩,.inr ⟨_,_,jX h2,rfl,rfl,rfl,.inl ⟨rfl,hA⟩⟩,zpt⟩
  exact rM (l8 hp) zr2
 ·simpa using hnd
theorem Ch{M1 A1 V:LLA}{R R':AV}{eh:EH}{t k:Nat}(p q r:Nat)
  (hF:F=lv 3 (fun res h'=>∃M' A' tl,h'=toH (hS2 s M' A' tl)/\ay M'=true/\ay A'=true/\(res=R/\M'=M1/\A'=A1/\tl=[.rw ⟨t,k,V⟩])))
  (hx:mkV xs=R') (hR:rnV [some 0,none,none,some p,some q,some r] (toH (hS2 s M1 A1 [.rw ⟨t,k,V⟩])) R R') (h0:nth eh 0=some (.bx s.t0 s.k0 (s.pre++[.own p,.own q]))) (h1:nth eh p=some (.rw ⟨s.t1,s.k1,M1⟩)) (h2:nth eh q=some (.rw ⟨s.t2,s.k2,A1⟩))
  (h3:nth eh r=some (.rw ⟨t,k,V⟩)) (hnd:[0,p,q,r].Nodup) (hp:s.pre.all dx=true) (hM:ay M1=true) (hA:ay A1=true) (hV:ay V=true):F xs eh:=by
 subst hF
 refine .inl ⟨R,toH (hS2 s M1 A1 [.rw ⟨t,k,V⟩]),[some 0,none,none,some p,some q,some r],wkM _ ⟨?_,zpt⟩ ?_ ?_ ⟨.inl rfl,.inl rfl,.inr rfl,zpt⟩ ⟨.inl rfl,.inl rfl,.inr ⟨_,jX h0⟩,zpt⟩,M1,A1,_,rfl,hM,hA,rfl,rfl,rfl,rfl⟩
 ·rw [hx];exact hR
 ·refine⟨.inr ⟨_,_,jX h0,rfl,rfl,rfl,.inr ⟨?_,zpt⟩⟩,.inl rfl,.inl rfl,.inr ⟨_,_,jX h1,rfl,rfl,rfl,.inl ⟨rfl,hM⟩⟩,.inr ⟨_,_,jX h2,rfl,rfl,rfl,.inl ⟨rfl,hA⟩⟩,.inr ⟨_,_,jX h3,rfl,rfl,rfl,.inl ⟨rfl,hV⟩⟩,zpt⟩
  exact rM (l8 hp) zr2
 ·simpa using hnd
theorem r5{s:Nat->Option (LLA)}:∀{xs:List AC},xs.all dx=true->xs.map (AC.seal s)=xs
 | [],_=>rfl
 |x::xs,hp=>by
  simp only [zqD,zqs]at hp
  rw [zqA,uK hp.1,r5 hp.2]
theorem uL{f:FuncId}{M A M1 A1 V:LLA}{args:List AT}{R R':AV}{t k:Nat}(hc:JY P f s M A args fun r m a tl=>r=R/\m=M1/\a=A1/\tl=[.rw ⟨t,k,V⟩])
  (hk:∀x∈V,x.length=k) (hd:∀x∈V,x.all dat=true) (hR:R.seal (sl1 5 V)=R') (hR':dv R'=true) (hp:s.pre.all dx=true):SE P f s M A args R' M1 A1:=by
 unfold SE JY
 unfold JY at hc
 refine Bw hc fun res h'⟨m,a,tl,e,pm,pa,e1,e2,e3,e4⟩=> ?_
 subst e e1 e2 e3 e4
 refine⟨R',toH (hS2 s m a []),bK (sl1 5 V) (jL rfl hk hd) (Wk.weak (wkM [some 0,none,none,some 3,some 4] ⟨?_,zpt⟩ ?_ (by decide) ⟨.inl rfl,.inl rfl,.inr rfl,zpt⟩ ⟨.inl rfl,.inl rfl,.inr ⟨_,rfl⟩,zpt⟩)),m,a,[],rfl,pm,pa,rfl,rfl,rfl,rfl⟩
 ·show rnV _ _ R' (AV.seal (sl1 5 V) res)
  rw [hR];exact iR hR'
 ·refine⟨.inr (wqB rfl ⟨?_,zpt⟩),.inl rfl,.inl rfl,.inr ⟨_,_,rfl,rfl,rfl,rfl,.inl (bJ pm)⟩,.inr ⟨_,_,rfl,rfl,rfl,rfl,.inl (bJ pa)⟩,zpt⟩
  show rnL _ _ (s.pre++[AC.own 3,AC.own 4]) ((s.pre++[AC.own 3,AC.own 4]).map (AC.seal (sl1 5 V)))
  rw [List.map_append,r5 hp]
  exact rM (l8 hp) zr2
end Go.Proofs.YtckchgoblpgpbaaGreat.Am
