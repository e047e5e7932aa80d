/- A part of AM, a framework of the prover own: functions of any program as maps of data. -/
import Derived.Test.YtckchgoblpgpbaaGreatJ8ap
set_option linter.unusedVariables false
set_option linter.unusedSimpArgs false
namespace Go.Proofs.YtckchgoblpgpbaaGreat.Am
open Go.RowKit
theorem qw{H:EH}{t k t1 k1 t2 k2 r rm ra off:Nat}{M A:LLA}(pre:List AC)(h0:nth H r=some (.bx t k (pre++[.own rm,.own ra])))(hp:pre.all dat=true)(h1:nth H rm=some (.rw ⟨t1,k1,M⟩))(kM:∀x∈M,x.length=k1)(dM:∀x∈M,x.all dat=true)(h2:nth H ra=some (.rw ⟨t2,k2,A⟩))(kA:∀x∈A,x.length=k2)(dA:∀x∈A,x.all dat=true):
  Ec (toH H) (.ptr r 0 off) (.eptr (pre++[.view M,.view A]) off):=by
 have e:∀{i:Nat}{x:EE},nth H i=some x->(toH H)[i]? =some x.e:=fun{i x} h=>by
  rw [fF]at h;simp [toH,h]
 refine Ec.ptr r 0 off ⟨t,k,[pre++[AC.own rm,AC.own ra]]⟩ (pre++[AC.own rm,AC.own ra]) _ (e h0) rfl (by simp) fun j c d hc hd=> ?_
 by_cases hj:j<pre.length
 ·rw [zqh hj]at hc hd
  rw [hc]at hd
  cases hd
  exact av (zqf.1 hp c (zqd hc))
 ·rw [zqg (by omega)]at hc hd
  rcases hn:j-pre.length with _|_|n
  ·rw [hn]at hc hd;cases hc;cases hd
   exact aX (ab:=⟨t1,k1,M⟩) (e h1) kM dM
  ·rw [hn]at hc hd;cases hc;cases hd
   exact aX (ab:=⟨t2,k2,A⟩) (e h2) kA dA
  ·rw [hn]at hc;simp at hc
theorem KD{β:BP}{P:Program}{n0 N:Nat}{g:Gd}(hg:g=G0 P n0 N){t k by_:Nat}{es:LLA}{y:List AC}{q:Prop}(hk:y.length=k)(hb:by_<=65536)(hl:es.length<=1073741824)(hq:q):
  g .N ((∀x,x∈[y]->x.length=k)/\((AB.mk t k es).es.length+[y].length)*by_<=140737488355328/\(AB.mk t k es).es.length+[y].length<=4611686018427387904) q:=
 goN hg ⟨fun x hx=>by rw [zpa.1 hx];exact hk,zpb (Nat.mul_le_mul (show es.length+1<=1073741825 by omega) hb) (by decide),by show es.length+1<=_;omega⟩ hq
end Go.Proofs.YtckchgoblpgpbaaGreat.Am
