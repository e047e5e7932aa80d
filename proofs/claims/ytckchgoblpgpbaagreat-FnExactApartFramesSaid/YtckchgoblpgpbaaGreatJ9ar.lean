/- A part of AM, a framework of the prover own: functions of any program as maps of data. -/
import Derived.Test.YtckchgoblpgpbaaGreatJ9aq
set_option linter.unusedVariables false
set_option linter.unusedSimpArgs false
namespace Go.Proofs.YtckchgoblpgpbaaGreat.Am
open Go.RowKit
def SE(P:Program)(f:FuncId)(s:S3K)(M A:LLA)(args:List AT)(res:AV)(M' A':LLA):Prop:=
 Jq P f s M A args fun r m a tl=>r=res/\m=M'/\a=A'/\tl=[]
theorem jR{H:EH}{i:Nat}{x:EE}(h:nth H i=some x):(toH H)[i]? =some x.e:=by
 rw [fB]at h;simp [toH,h]
theorem Cy{x:AV}(hp:dt x=true)(s:Nat->Nat):x.mv s=x:=by
 cases x with
 |t x=>exact congrArg AV.t (n6 hp s)
 |tup xs=>
  refine congrArg AV.tup ?_
  have:∀(xs:List AT),xs.all pB=true->xs.map (AT.mv s)=xs:=fun xs=>by
   induction xs with
   |nil=>intro _;rfl
   |cons x xs ih=>intro h;simp only [zqD,zqs]at h;rw [zqA,n6 h.1,ih h.2]
  exact this xs hp
variable {s:S3K}{P:Program}
theorem je{n0 N:Nat}{β:BP}{g:Gd}(hβ:β=bp0)(hg:g= @G0 β P n0 N){H:EH}{f:FuncId}{args args':List AT}{K:AV->EH->Prop}(rb rm ra:Nat){M A M' A':LLA}{R:AV}
  (hc:SE P f s M A args' R M' A') (h0:nth H rb=some (.bx s.t0 s.k0 (s.pre++[.own rm,.own ra]))) (h1:nth H rm=some (.rw ⟨s.t1,s.k1,M⟩)) (h2:nth H ra=some (.rw ⟨s.t2,s.k2,A⟩)) (hnd:[rb,rm,ra].Nodup) (hp:s.pre.all du=true) (hM:az M=true) (hA:az A=true)
  (ha:zV ([some rb,some rm,some ra]) (toH (hS s M A)) args' args) (hr:dt R=true)
  (hK:K R (afS s H rb rm ra M' A' [])):g .C f H args K:=
 J8 hβ hg rb rm ra hc h0 h1 h2 hnd hp hM hA ha fun res m a tl _ _⟨e1,e2,e3,e4⟩=>by
  subst e1 e2 e3 e4
  rw [Cy hr]
  exact hK
variable {F:List AT->EH->Prop}{xs:List AT}
theorem su{M1 A1:LLA}{R:AV}{eh:EH}(p q:Nat)
  (hF:F=li 3 (fun res h'=>∃M' A' tl,h'=toH (hS2 s M' A' tl)/\az M'=true/\az A'=true/\(res=R/\M'=M1/\A'=A1/\tl=[])))
  (hx:mkV xs=R) (hR:dt R=true) (h0:nth eh 0=some (.bx s.t0 s.k0 (s.pre++[.own p,.own q]))) (h1:nth eh p=some (.rw ⟨s.t1,s.k1,M1⟩)) (h2:nth eh q=some (.rw ⟨s.t2,s.k2,A1⟩))
  (hnd:[0,p,q].Nodup) (hp:s.pre.all du=true) (hM:az M1=true) (hA:az A1=true):F xs eh:=by
 subst hF
 refine .inl ⟨R,toH (hS2 s M1 A1 []),[some 0,none,none,some p,some q],wkM _ ⟨?_,zpt⟩ ?_ ?_ ⟨.inl rfl,.inl rfl,.inr rfl,zpt⟩ ⟨.inl rfl,.inl rfl,.inr ⟨_,jR h0⟩,zpt⟩,M1,A1,[],rfl,hM,hA,rfl,rfl,rfl,rfl⟩
 ·rw [hx];exact iJ hR
 ·refine⟨.inr ⟨_,_,jR h0,rfl,rfl,rfl,.inr ⟨?_,zpt⟩⟩,.inl rfl,.inl rfl,.inr ⟨_,_,jR h1,rfl,rfl,rfl,.inl ⟨rfl,hM⟩⟩,.inr ⟨_,_,jR h2,rfl,rfl,rfl,.inl ⟨rfl,hA⟩⟩,zpt⟩
  exact rz (lJ hp) zr2
 ·simpa using hnd
theorem Dc{M1 A1 V:LLA}{R R':AV}{eh:EH}{t k:Nat}(p q r:Nat)
  (hF:F=li 3 (fun res h'=>∃M' A' tl,h'=toH (hS2 s M' A' tl)/\az M'=true/\az A'=true/\(res=R/\M'=M1/\A'=A1/\tl=[.rw ⟨t,k,V⟩])))
  (hx:mkV xs=R') (hR:rnV [some 0,none,none,some p,some q,some r] (toH (hS2 s M1 A1 [.rw ⟨t,k,V⟩])) R R') (h0:nth eh 0=some (.bx s.t0 s.k0 (s.pre++[.own p,.own q]))) (h1:nth eh p=some (.rw ⟨s.t1,s.k1,M1⟩)) (h2:nth eh q=some (.rw ⟨s.t2,s.k2,A1⟩))
  (h3:nth eh r=some (.rw ⟨t,k,V⟩)) (hnd:[0,p,q,r].Nodup) (hp:s.pre.all du=true) (hM:az M1=true) (hA:az A1=true) (hV:az V=true):F xs eh:=by
 subst hF
 refine .inl ⟨R,toH (hS2 s M1 A1 [.rw ⟨t,k,V⟩]),[some 0,none,none,some p,some q,some r],wkM _ ⟨?_,zpt⟩ ?_ ?_ ⟨.inl rfl,.inl rfl,.inr rfl,zpt⟩ ⟨.inl rfl,.inl rfl,.inr ⟨_,jR h0⟩,zpt⟩,M1,A1,_,rfl,hM,hA,rfl,rfl,rfl,rfl⟩
 ·rw [hx];exact hR
 ·refine⟨.inr ⟨_,_,jR h0,rfl,rfl,rfl,.inr ⟨?_,zpt⟩⟩,.inl rfl,.inl rfl,.inr ⟨_,_,jR h1,rfl,rfl,rfl,.inl ⟨rfl,hM⟩⟩,.inr ⟨_,_,jR h2,rfl,rfl,rfl,.inl ⟨rfl,hA⟩⟩,.inr ⟨_,_,jR h3,rfl,rfl,rfl,.inl ⟨rfl,hV⟩⟩,zpt⟩
  exact rz (lJ hp) zr2
 ·simpa using hnd
theorem rN{s:Nat->Option (LLA)}:∀{xs:List AC},xs.all du=true->xs.map (AC.seal s)=xs
 | [],_=>rfl
 |x::xs,hp=>by
  simp only [zqD,zqs]at hp
  rw [zqA,ul hp.1,rN hp.2]
theorem xh{f:FuncId}{M A M1 A1 V:LLA}{args:List AT}{R R':AV}{t k:Nat}(hc:Jq P f s M A args fun r m a tl=>r=R/\m=M1/\a=A1/\tl=[.rw ⟨t,k,V⟩])
  (hk:∀x∈V,x.length=k) (hd:∀x∈V,x.all dat=true) (hR:R.seal (sl1 5 V)=R') (hR':dt R'=true) (hp:s.pre.all du=true):SE P f s M A args R' M1 A1:=by
 unfold SE Jq
 unfold Jq at hc
 refine AF hc fun res h'⟨m,a,tl,e,pm,pa,e1,e2,e3,e4⟩=> ?_
 subst e e1 e2 e3 e4
 refine⟨R',toH (hS2 s m a []),bG (sl1 5 V) (jE rfl hk hd) (Wk.weak (wkM [some 0,none,none,some 3,some 4] ⟨?_,zpt⟩ ?_ (by decide) ⟨.inl rfl,.inl rfl,.inr rfl,zpt⟩ ⟨.inl rfl,.inl rfl,.inr ⟨_,rfl⟩,zpt⟩)),m,a,[],rfl,pm,pa,rfl,rfl,rfl,rfl⟩
 ·show rnV _ _ R' (AV.seal (sl1 5 V) res)
  rw [hR];exact iJ hR'
 ·refine⟨.inr (wqB rfl ⟨?_,zpt⟩),.inl rfl,.inl rfl,.inr ⟨_,_,rfl,rfl,rfl,rfl,.inl (bD pm)⟩,.inr ⟨_,_,rfl,rfl,rfl,rfl,.inl (bD pa)⟩,zpt⟩
  show rnL _ _ (s.pre++[AC.own 3,AC.own 4]) ((s.pre++[AC.own 3,AC.own 4]).map (AC.seal (sl1 5 V)))
  rw [List.map_append,rN hp]
  exact rz (lJ hp) zr2
end Go.Proofs.YtckchgoblpgpbaaGreat.Am
