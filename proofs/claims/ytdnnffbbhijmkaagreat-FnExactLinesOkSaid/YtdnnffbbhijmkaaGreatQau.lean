/- Structs that hold slices, as data. -/
import Derived.Test.YtdnnffbbhijmkaaGreatQat
set_option linter.unusedVariables false
set_option linter.unusedSimpArgs false
set_option maxHeartbeats 8000000
namespace Go.Proofs.YtdnnffbbhijmkaaGreat
open Go.ChangeShapes Go.WideShapes Go.ChangeAt Go.RowKit
set_option maxRecDepth 100000
def dq(s:bd)(sd:Int)(rtl:Bool):bO:=
 if sd=1 then s.top else if sd=3 then s.bottom
 else if sd=0 then(if(if rtl then s.fin else s.start).kind≠0 then(if rtl then s.fin else s.start)else s.left)
 else if sd=2 then(if(if rtl then s.start else s.fin).kind≠0 then(if rtl then s.start else s.fin)else s.right)else⟨0,0⟩
theorem ur(s:bd)(sd:Int)(rtl:Bool)(w:World):
  Calls Tryz.prog 218 #[.agg #[.int .i64 s.left.kind,.int .i64 s.left.n,.int .i64 s.top.kind,.int .i64 s.top.n,.int .i64 s.right.kind,.int .i64 s.right.n,.int .i64 s.bottom.kind,.int .i64 s.bottom.n,.int .i64 s.start.kind,.int .i64 s.start.n,.int .i64 s.fin.kind,.int .i64 s.fin.n],.int .i64 sd,.bool rtl] w fun e w'=>e= .returned (.agg #[.int .i64 (dq s sd rtl).kind,.int .i64 (dq s sd rtl).n])∧Below w.heap.size w w':=by
 by_cases h1:sd=1
 ·subst h1
  cases rtl
  ·go_enter Tryz.func218,Tryz.ntmps218
   go_wp2
   go_region
   all_goals go_wp2
   all_goals(try go_wp2)
   all_goals(refine bodyPost_ret (v:= .agg #[.int .i64 (dq s 1 false).kind,.int .i64 (dq s 1 false).n]) (by simp [results,Tryz.results218,go_sem,dq, *]) rfl ?_)
   all_goals exact⟨rfl,by repeat(first|(with_reducible exact ep _)|(with_reducible assumption)|(with_reducible refine Below.setCell ?_ (by first|omega|(simp;done)|(simp;omega)) _)|(with_reducible refine bV ?_ _)|(with_reducible refine Below.drew ?_)|(with_reducible refine bz ?_ (by with_reducible assumption))|(with_reducible refine bz ?_ (dt _ _)))⟩
  ·go_enter Tryz.func218,Tryz.ntmps218
   go_wp2
   go_region
   all_goals go_wp2
   all_goals(try go_wp2)
   all_goals(refine bodyPost_ret (v:= .agg #[.int .i64 (dq s 1 true).kind,.int .i64 (dq s 1 true).n]) (by simp [results,Tryz.results218,go_sem,dq, *]) rfl ?_)
   all_goals exact⟨rfl,by repeat(first|(with_reducible exact ep _)|(with_reducible assumption)|(with_reducible refine Below.setCell ?_ (by first|omega|(simp;done)|(simp;omega)) _)|(with_reducible refine bV ?_ _)|(with_reducible refine Below.drew ?_)|(with_reducible refine bz ?_ (by with_reducible assumption))|(with_reducible refine bz ?_ (dt _ _)))⟩
 by_cases h3:sd=3
 ·subst h3
  cases rtl
  ·go_enter Tryz.func218,Tryz.ntmps218
   go_wp2
   go_region
   all_goals go_wp2
   all_goals(try go_wp2)
   all_goals(refine bodyPost_ret (v:= .agg #[.int .i64 (dq s 3 false).kind,.int .i64 (dq s 3 false).n]) (by simp [results,Tryz.results218,go_sem,dq, *]) rfl ?_)
   all_goals exact⟨rfl,by repeat(first|(with_reducible exact ep _)|(with_reducible assumption)|(with_reducible refine Below.setCell ?_ (by first|omega|(simp;done)|(simp;omega)) _)|(with_reducible refine bV ?_ _)|(with_reducible refine Below.drew ?_)|(with_reducible refine bz ?_ (by with_reducible assumption))|(with_reducible refine bz ?_ (dt _ _)))⟩
  ·go_enter Tryz.func218,Tryz.ntmps218
   go_wp2
   go_region
   all_goals go_wp2
   all_goals(try go_wp2)
   all_goals(refine bodyPost_ret (v:= .agg #[.int .i64 (dq s 3 true).kind,.int .i64 (dq s 3 true).n]) (by simp [results,Tryz.results218,go_sem,dq, *]) rfl ?_)
   all_goals exact⟨rfl,by repeat(first|(with_reducible exact ep _)|(with_reducible assumption)|(with_reducible refine Below.setCell ?_ (by first|omega|(simp;done)|(simp;omega)) _)|(with_reducible refine bV ?_ _)|(with_reducible refine Below.drew ?_)|(with_reducible refine bz ?_ (by with_reducible assumption))|(with_reducible refine bz ?_ (dt _ _)))⟩
 by_cases h0:sd=0
 ·subst h0
  cases rtl
  ·by_cases hk:s.start.kind=0
   ·go_enter Tryz.func218,Tryz.ntmps218
    go_wp2
    go_region
    all_goals go_wp2
    all_goals(try go_wp2)
    all_goals(refine bodyPost_ret (v:= .agg #[.int .i64 (dq s 0 false).kind,.int .i64 (dq s 0 false).n]) (by simp [results,Tryz.results218,go_sem,dq, *]) rfl ?_)
    all_goals exact⟨rfl,by repeat(first|(with_reducible exact ep _)|(with_reducible assumption)|(with_reducible refine Below.setCell ?_ (by first|omega|(simp;done)|(simp;omega)) _)|(with_reducible refine bV ?_ _)|(with_reducible refine Below.drew ?_)|(with_reducible refine bz ?_ (by with_reducible assumption))|(with_reducible refine bz ?_ (dt _ _)))⟩
   ·go_enter Tryz.func218,Tryz.ntmps218
    go_wp2
    go_region
    all_goals go_wp2
    all_goals(try go_wp2)
    all_goals(refine bodyPost_ret (v:= .agg #[.int .i64 (dq s 0 false).kind,.int .i64 (dq s 0 false).n]) (by simp [results,Tryz.results218,go_sem,dq, *]) rfl ?_)
    all_goals exact⟨rfl,by repeat(first|(with_reducible exact ep _)|(with_reducible assumption)|(with_reducible refine Below.setCell ?_ (by first|omega|(simp;done)|(simp;omega)) _)|(with_reducible refine bV ?_ _)|(with_reducible refine Below.drew ?_)|(with_reducible refine bz ?_ (by with_reducible assumption))|(with_reducible refine bz ?_ (dt _ _)))⟩
  ·by_cases hk:s.fin.kind=0
   ·go_enter Tryz.func218,Tryz.ntmps218
    go_wp2
    go_region
    all_goals go_wp2
    all_goals(try go_wp2)
    all_goals(refine bodyPost_ret (v:= .agg #[.int .i64 (dq s 0 true).kind,.int .i64 (dq s 0 true).n]) (by simp [results,Tryz.results218,go_sem,dq, *]) rfl ?_)
    all_goals exact⟨rfl,by repeat(first|(with_reducible exact ep _)|(with_reducible assumption)|(with_reducible refine Below.setCell ?_ (by first|omega|(simp;done)|(simp;omega)) _)|(with_reducible refine bV ?_ _)|(with_reducible refine Below.drew ?_)|(with_reducible refine bz ?_ (by with_reducible assumption))|(with_reducible refine bz ?_ (dt _ _)))⟩
   ·go_enter Tryz.func218,Tryz.ntmps218
    go_wp2
    go_region
    all_goals go_wp2
    all_goals(try go_wp2)
    all_goals(refine bodyPost_ret (v:= .agg #[.int .i64 (dq s 0 true).kind,.int .i64 (dq s 0 true).n]) (by simp [results,Tryz.results218,go_sem,dq, *]) rfl ?_)
    all_goals exact⟨rfl,by repeat(first|(with_reducible exact ep _)|(with_reducible assumption)|(with_reducible refine Below.setCell ?_ (by first|omega|(simp;done)|(simp;omega)) _)|(with_reducible refine bV ?_ _)|(with_reducible refine Below.drew ?_)|(with_reducible refine bz ?_ (by with_reducible assumption))|(with_reducible refine bz ?_ (dt _ _)))⟩
 by_cases h2:sd=2
 ·subst h2
  cases rtl
  ·by_cases hk:s.fin.kind=0
   ·go_enter Tryz.func218,Tryz.ntmps218
    go_wp2
    go_region
    all_goals go_wp2
    all_goals(try go_wp2)
    all_goals(refine bodyPost_ret (v:= .agg #[.int .i64 (dq s 2 false).kind,.int .i64 (dq s 2 false).n]) (by simp [results,Tryz.results218,go_sem,dq, *]) rfl ?_)
    all_goals exact⟨rfl,by repeat(first|(with_reducible exact ep _)|(with_reducible assumption)|(with_reducible refine Below.setCell ?_ (by first|omega|(simp;done)|(simp;omega)) _)|(with_reducible refine bV ?_ _)|(with_reducible refine Below.drew ?_)|(with_reducible refine bz ?_ (by with_reducible assumption))|(with_reducible refine bz ?_ (dt _ _)))⟩
   ·go_enter Tryz.func218,Tryz.ntmps218
    go_wp2
    go_region
    all_goals go_wp2
    all_goals(try go_wp2)
    all_goals(refine bodyPost_ret (v:= .agg #[.int .i64 (dq s 2 false).kind,.int .i64 (dq s 2 false).n]) (by simp [results,Tryz.results218,go_sem,dq, *]) rfl ?_)
    all_goals exact⟨rfl,by repeat(first|(with_reducible exact ep _)|(with_reducible assumption)|(with_reducible refine Below.setCell ?_ (by first|omega|(simp;done)|(simp;omega)) _)|(with_reducible refine bV ?_ _)|(with_reducible refine Below.drew ?_)|(with_reducible refine bz ?_ (by with_reducible assumption))|(with_reducible refine bz ?_ (dt _ _)))⟩
  ·by_cases hk:s.start.kind=0
   ·go_enter Tryz.func218,Tryz.ntmps218
    go_wp2
    go_region
    all_goals go_wp2
    all_goals(try go_wp2)
    all_goals(refine bodyPost_ret (v:= .agg #[.int .i64 (dq s 2 true).kind,.int .i64 (dq s 2 true).n]) (by simp [results,Tryz.results218,go_sem,dq, *]) rfl ?_)
    all_goals exact⟨rfl,by repeat(first|(with_reducible exact ep _)|(with_reducible assumption)|(with_reducible refine Below.setCell ?_ (by first|omega|(simp;done)|(simp;omega)) _)|(with_reducible refine bV ?_ _)|(with_reducible refine Below.drew ?_)|(with_reducible refine bz ?_ (by with_reducible assumption))|(with_reducible refine bz ?_ (dt _ _)))⟩
   ·go_enter Tryz.func218,Tryz.ntmps218
    go_wp2
    go_region
    all_goals go_wp2
    all_goals(try go_wp2)
    all_goals(refine bodyPost_ret (v:= .agg #[.int .i64 (dq s 2 true).kind,.int .i64 (dq s 2 true).n]) (by simp [results,Tryz.results218,go_sem,dq, *]) rfl ?_)
    all_goals exact⟨rfl,by repeat(first|(with_reducible exact ep _)|(with_reducible assumption)|(with_reducible refine Below.setCell ?_ (by first|omega|(simp;done)|(simp;omega)) _)|(with_reducible refine bV ?_ _)|(with_reducible refine Below.drew ?_)|(with_reducible refine bz ?_ (by with_reducible assumption))|(with_reducible refine bz ?_ (dt _ _)))⟩
 have g1:(sd==1)=false:=by simpa using h1
 have g3:(sd==3)=false:=by simpa using h3
 have g0:(sd==0)=false:=by simpa using h0
 have g2:(sd==2)=false:=by simpa using h2
 cases rtl
 ·go_enter Tryz.func218,Tryz.ntmps218
  go_wp2
  go_region
  all_goals go_wp2
  all_goals(try go_wp2)
  all_goals(refine bodyPost_ret (v:= .agg #[.int .i64 (dq s sd false).kind,.int .i64 (dq s sd false).n]) (by simp [results,Tryz.results218,go_sem,dq, *]) rfl ?_)
  all_goals exact⟨rfl,by repeat(first|(with_reducible exact ep _)|(with_reducible assumption)|(with_reducible refine Below.setCell ?_ (by first|omega|(simp;done)|(simp;omega)) _)|(with_reducible refine bV ?_ _)|(with_reducible refine Below.drew ?_)|(with_reducible refine bz ?_ (by with_reducible assumption))|(with_reducible refine bz ?_ (dt _ _)))⟩
 ·go_enter Tryz.func218,Tryz.ntmps218
  go_wp2
  go_region
  all_goals go_wp2
  all_goals(try go_wp2)
  all_goals(refine bodyPost_ret (v:= .agg #[.int .i64 (dq s sd true).kind,.int .i64 (dq s sd true).n]) (by simp [results,Tryz.results218,go_sem,dq, *]) rfl ?_)
  all_goals exact⟨rfl,by repeat(first|(with_reducible exact ep _)|(with_reducible assumption)|(with_reducible refine Below.setCell ?_ (by first|omega|(simp;done)|(simp;omega)) _)|(with_reducible refine bV ?_ _)|(with_reducible refine Below.drew ?_)|(with_reducible refine bz ?_ (by with_reducible assumption))|(with_reducible refine bz ?_ (dt _ _)))⟩
end Go.Proofs.YtdnnffbbhijmkaaGreat
namespace Go.Proofs.YtdnnffbbhijmkaaGreat
open Go.ChangeShapes Go.WideShapes Go.ChangeAt Go.RowKit Am Go.Proofs.Tryz
set_option maxRecDepth 100000
theorem yy{F:Nat→Prop}{w:World}{a:Array Value}{u:Value}(h:RT F w [] [] (.agg (lc a)) u):u= .agg a:=by
 obtain⟨vs,rfl,hl,hc⟩:=h
 have hl':vs.length=a.toList.length:=by rw [hl];simp [lc]
 have:vs=a.toList:=by
  refine List.ext_getElem? fun i=> ?_
  by_cases hi:i<a.toList.length
  ·have h1:=zqc hi
   obtain⟨u,hu,_,hr⟩:=hc i (.imm a.toList[i]) (by simp [lc,h1])
   rw [hu,h1]
   exact congrArg some hr
  ·rw [zqz (by omega),zqz (by omega)]
 rw [this]
theorem AW{F:Nat→Prop}{w:World}:∀(j:Nat)(x:AT)(u:Value),([]:List AT)[j]? =some x→RT F w [] [] x u→([]:List Value)[j]? =some u:=fun j x u h=>by simp at h
theorem ot{F:Nat→Prop}{w:World}{x:AT}{v:Value}{xs:List AT}{vs:List Value}(h1:∀u,RT F w [] [] x u→u=v)(h2:∀(j:Nat)(x:AT)(u:Value),xs[j]? =some x→RT F w [] [] x u→vs[j]? =some u):
  ∀(j:Nat)(y:AT)(u:Value),(x::xs)[j]? =some y→RT F w [] [] y u→(v::vs)[j]? =some u:=fun j y u h hr=>by
 cases j with
 |zero=>simp only [zqw,zqy]at h;subst h;rw [h1 u hr];rfl
 |succ j=>exact h2 j y u (by simpa using h) hr
theorem nB(s:bd)(sd:Int)(rtl:Bool):PC0 218 [.agg (lc (bd.c s)),ai sd,abl rtl] (.t (agV (pT s sd rtl))):=
 tH (us:=[.agg (bd.c s),.int .i64 sd,.bool rtl]) (v:= .agg #[.int .i64 (pT s sd rtl).kind,.int .i64 (pT s sd rtl).n]) (by kernel_rfl) rfl
  (fun F w=>ot (fun u h=>yy h) (ot (fun u h=>h) (ot (fun u h=>h) AW)))
  (fun F w=>⟨[.int .i64 (pT s sd rtl).kind,.int .i64 (pT s sd rtl).n],rfl,rfl,fun j c hj=>by
   match j,hj with
   |0,hj=>cases hj;exact⟨_,rfl,rfl,rfl⟩
   |1,hj=>cases hj;exact⟨_,rfl,rfl,rfl⟩⟩)
  (fun w=>ur s sd rtl w)
end Go.Proofs.YtdnnffbbhijmkaaGreat
namespace Go.Proofs.YtdnnffbbhijmkaaGreat
open Go.ChangeShapes Go.WideShapes Go.ChangeAt Go.RowKit Am Go.Proofs.Tryz
inductive Sh where
 |i
 |b
 |s (ks:List Sh)
mutual
def Dt:Sh→AC→Prop
 | .i,c=>∃n,R64 n∧c= .imm (.int .i64 n)
 | .b,c=>∃x,c= .imm (.bool x)
 | .s ks,c=>∃xs:LLA,c= .view xs∧xs.length≤9223372036854775807∧∀x∈xs,DtL ks x
def DtL:List Sh→List AC→Prop
 | [],[]=>True
 |k::ks,c::cs=>Dt k c∧DtL ks cs
 |_,_=>False
end
theorem DtL.len:∀{ks:List Sh}{xs:List AC},DtL ks xs→xs.length=ks.length
 | [],[],_=>rfl
 | [],_::_,h=>by unfold DtL at h;exact h.elim
 |_::_,[],h=>by unfold DtL at h;exact h.elim
 |_::ks,_::xs,h=>by unfold DtL at h;simp [DtL.len h.2]
theorem DtL.mk:∀{ks:List Sh}{xs:List AC},xs.length=ks.length→(∀(i:Nat)(k:Sh)(c:AC),ks[i]? =some k→xs[i]? =some c→Dt k c)→DtL ks xs
 | [],[],_,_=>by unfold DtL;trivial
 | [],_::_,h,_=>by simp at h
 |_::_,[],h,_=>by simp at h
 |_::ks,_::xs,h,hp=>by
  unfold DtL
  exact⟨hp 0 _ _ rfl rfl,DtL.mk (by simpa using h) fun i k c h1 h2=>hp (i+1) k c (by simpa using h1) (by simpa using h2)⟩
def shC(P:Program)(f:TypeId→Option (List Sh))(u:TypeId):Option Sh:=
 match P.underlying u with
 |some (.int .i64)=>some .i
 |some .bool=>some .b
 |some (.slice e)=>if e<P.types.size then(match f e with|some (k::ks)=>if P.cellsOf e=(k::ks).length then some (.s (k::ks))else none|_=>none)else none
 |_=>none
def shL(P:Program):Nat→TypeId→Option (List Sh)
 |0,_=>none
 |n+1,t=>match vR P 5 t with|none=>none|some ts=>ts.mapM (shC P (shL P n))
theorem z5{α β:Type}{f:α→Option β}:∀{l:List α}{r:List β},l.mapM f=some r→r.length=l.length∧∀(i:Nat)(b:β),r[i]? =some b→∃a,l[i]? =some a∧f a=some b
 | [],r,h=>by simp only [List.mapM_nil,Option.pure_def,zqy]at h;subst h;exact⟨rfl,fun i b hb=>by simp at hb⟩
 |a::l,r,h=>by
  simp only [List.mapM_cons,Option.bind_eq_bind,Option.bind_eq_some_iff,Option.pure_def,zqy]at h
  obtain⟨b,h1,r',h2,rfl⟩:=h
  obtain⟨h3,h4⟩:=z5 h2
  refine⟨by simp [h3],fun i b' hb=> ?_⟩
  cases i with
  |zero=>simp at hb;subst hb;exact⟨a,rfl,h1⟩
  |succ i=>exact h4 i b' (by simpa using hb)
section
variable {H : Type} {enc : TypeId × Value → H} {P : Program} {w : World} {lJ : Bool} {base : Nat} {spare : Nat → Bool}
theorem yG(hl:laidOutB P=true):∀(n:Nat)(t:TypeId)(ks:List Sh)(fuel:Nat)(cs:List Value)(x:DataW H×List MemPlace),t<P.types.size→shL P n t=some ks→DataW.trod enc P w base spare lJ fuel t cs=some x→
  ∃xs:List AC,DtL ks xs∧xs.length=cs.length∧∀(j:Nat)(c:AC),xs[j]? =some c→∃u,cs[j]? =some u∧one u=true∧RP (fun b=>b<w.heap.size) w c u:=by
 intro n
 induction n with
 |zero=>intro t ks fuel cs x _ h;simp [shL]at h
 |succ n ih=>
  intro t ks fuel cs x hlt hsh htr
  unfold shL at hsh
  split at hsh
  ·cases hsh
  ·rename_i ts hts
   obtain⟨hlen,hat⟩:=z5 hsh
   obtain⟨hcl,hca⟩:=oJ hl 5 t ts fuel cs x hlt hts htr
   have key:∀i,i<ks.length→∃c:AC,(∀k,ks[i]? =some k→Dt k c)∧∃u,cs[i]? =some u∧one u=true∧RP (fun b=>b<w.heap.size) w c u:=by
    intro i hi
    have hki:=zqc hi
    obtain⟨u,hu,hs⟩:=hat i _ hki
    obtain⟨v,f',y,hv,hy⟩:=hca i u hu
    suffices∃c:AC,Dt ks[i] c∧one v=true∧RP (fun b=>b<w.heap.size) w c v by
     obtain⟨c,h1,h2,h3⟩:=this
     exact⟨c,fun k hk=>by rw [hki]at hk;cases hk;exact h1,v,hv,h2,h3⟩
    generalize ks[i]=k at hs
    unfold shC at hs
    split at hs
    ·rename_i hun
     cases hs
     obtain⟨m,h1,_,hw⟩:=DataW.trod_int hun hy
     simp only [List.cons.injEq,and_true]at h1
     subst h1
     exact⟨.J m,by unfold Dt;exact⟨m,qf hw,rfl⟩,rfl,by unfold RP;rfl⟩
    ·rename_i hun
     cases hs
     obtain⟨m,h1,_⟩:=DataW.trod_bool hun hy
     simp only [List.cons.injEq,and_true]at h1
     subst h1
     exact⟨.B m,by unfold Dt;exact⟨m,rfl⟩,rfl,by unfold RP;rfl⟩
    ·rename_i e hun
     split at hs
     ·rename_i he
      split at hs
      ·rename_i k0 ks0 hf0
       split at hs
       ·rename_i hck
        cases hs
        rcases Go.Deep.open_slice hun hy with⟨hcs,_⟩|⟨a,len,cap,m,n',D,Pl,hcs,hba,hlc,hm,hmm,hx,hel⟩
        ·simp only [List.cons.injEq,and_true]at hcs
         subst hcs
         refine⟨.view [],by unfold Dt;exact⟨[],rfl,by simp,by simp⟩,rfl,?_⟩
         unfold RP
         exact⟨none,0,rfl,Nat.le_refl _,by decide,.inl rfl⟩
        ·simp only [List.cons.injEq,and_true]at hcs
         subst hcs
         have hk0:0<P.cellsOf e:=by rw [hck];simp
         have hlm:len≤m:=by rw [hmm];split<;>omega
         have el:∀i,i<len→∃xs:List AC,DtL (k0::ks0) xs∧a.spot=none∧RPL (fun b=>b<w.heap.size) w a.block (a.off+i*P.cellsOf e) xs∧a.block<w.heap.size:=by
          intro i hi'
          obtain⟨cs',hc,htr'⟩:=hel i (by omega)
          obtain⟨_,hcl',hat'⟩:=World.cells?_some hc
          obtain⟨xs,h1,h2,h3⟩:=ih e _ n' cs' _ he hf0 htr'
          have hsp:a.spot=none:=by
           obtain⟨cs0,hc0',_⟩:=hel 0 (by omega)
           obtain⟨_,hl0,hat0⟩:=World.cells?_some hc0'
           have h4:=hat0 0 hk0
           have:∃u,cs0[0]? =some u:=⟨cs0[0]'(by omega),zqc (by omega)⟩
           obtain⟨u1,hu1⟩:=this
           rw [hu1]at h4
           have h5:=u6 h4
           simpa [Addr.add]using h5
          have hcell:∀(j:Nat)(c:AC),xs[j]? =some c→∃u,w.cell? ⟨a.block,a.off+i*P.cellsOf e+j,none⟩=some u∧one u=true∧RP (fun b=>b<w.heap.size) w c u:=fun j c hj=>by
           obtain⟨u,g1,g2,g3⟩:=h3 j c hj
           have hjl:j<P.cellsOf e:=by rw [←hcl'];exact(List.getElem?_eq_some_iff.1 g1).1
           have h6:=hat' j hjl
           rw [g1]at h6
           exact⟨u,by rw [←Cx a hsp];exact h6,g2,g3⟩
          refine⟨xs,h1,hsp,RPL.mk hcell,?_⟩
          have hx0:∃c,xs[0]? =some c:=⟨xs[0]'(by rw [h1.len];simp),zqc _⟩
          obtain⟨c,hc0⟩:=hx0
          obtain⟨u,g1,_⟩:=hcell 0 c hc0
          have hbl:=World.block_lt_of_cell? w _ g1
          exact hbl
         obtain⟨f,hf⟩:∃f:Nat→List AC,∀i,i<len→DtL (k0::ks0) (f i)∧a.spot=none∧RPL (fun b=>b<w.heap.size) w a.block (a.off+i*P.cellsOf e) (f i)∧a.block<w.heap.size:=Go.Deep.choose_lt el
         refine⟨.view ((List.range len).map f),by
          unfold Dt
          refine⟨_,rfl,by simp only [zql,List.length_range];exact Nat.le_trans hlc (Nat.le_trans hm (by decide)),fun x hx=> ?_⟩
          simp only [List.mem_map,List.mem_range]at hx
          obtain⟨i,hi,rfl⟩:=hx
          exact(hf i hi).1,rfl,?_⟩
         unfold RP
         refine⟨some a,cap,by simp,by simpa using hlc,hm,?_⟩
         by_cases h0:len=0
         ·left;subst h0;rfl
         ·right
          obtain⟨_,hsp,_,hbl⟩:=hf 0 (by omega)
          refine⟨a.block,a.off,P.cellsOf e,by obtain⟨b,o,s⟩:=a;simp only at hsp;subst hsp;rfl,hbl,RPE.mk fun i y hy=> ?_⟩
          simp only [zqi,zqj]at hy
          obtain⟨i',hi',rfl⟩:=hy
          have hil:i<len:=by have:=(List.getElem?_eq_some_iff.1 hi').1;simpa using this
          rw [List.getElem?_range hil]at hi'
          cases hi'
          obtain⟨g1,_,g3,_⟩:=hf i hil
          exact⟨by rw [g1.len,hck],g3⟩
       ·cases hs
      ·cases hs
     ·cases hs
    ·cases hs
   haveI:Inhabited AC:=⟨.dead⟩
   obtain⟨f,hf⟩:∃f:Nat→AC,∀i,i<ks.length→(∀k,ks[i]? =some k→Dt k (f i))∧∃u,cs[i]? =some u∧one u=true∧RP (fun b=>b<w.heap.size) w (f i) u:=Go.Deep.choose_lt key
   refine⟨(List.range ks.length).map f,DtL.mk (by simp) fun i k c hk hc=> ?_,by simp [hcl,hlen],fun j c hj=> ?_⟩
   ·simp only [zqi,zqj]at hc
    obtain⟨i',hi',rfl⟩:=hc
    have hil:i<ks.length:=(List.getElem?_eq_some_iff.1 hk).1
    rw [List.getElem?_range hil]at hi'
    cases hi'
    exact(hf i hil).1 k hk
   ·simp only [zqi,zqj]at hj
    obtain⟨i',hi',rfl⟩:=hj
    have hil:j<ks.length:=by have:=(List.getElem?_eq_some_iff.1 hi').1;simpa using this
    rw [List.getElem?_range hil]at hi'
    cases hi'
    exact(hf j hil).2
theorem wC{r:Reach}{b0:Nat}{t:TypeId}{fs:Array Field}{v:Value}{d:DataW H}{p:List MemPlace}(hl:laidOutB P=true)(n:Nat)(ks:List Sh)(hlt:t<P.types.size)(hs:P.underlying t=some (.struct fs))(hsh:shL P n t=some ks)
  (hv:Value.okWide P w r b0 t v) (h:DataW.Trod enc P w base spare lJ t v d p):∃xs,DtL ks xs∧RT (fun b=>b<w.heap.size) w [] [] (.agg xs) v:=by
 obtain⟨cs,rfl,hsz⟩:=okWide_struct hs hv
 obtain⟨fuel,hf⟩:=h
 obtain⟨xs,h1,h2,h3⟩:=yG hl n t ks fuel _ _ hlt hsh hf
 refine⟨xs,h1,cs.toList,rfl,h2.symm,fun j c hj=> ?_⟩
 obtain⟨u,g1,g2,g3⟩:=h3 j c hj
 have hc:Dt (ks[j]'(by rw [←h1.len];exact(List.getElem?_eq_some_iff.1 hj).1)) c∨True:= .inr trivial
 refine⟨u,g1,g2,?_⟩
 cases c with
 |imm v=>unfold RP at g3;exact g3
 |view ys=>exact g3
 |dead=>trivial
 |own r=>unfold RP at g3;exact g3.elim
 |sub r lo k=>unfold RP at g3;exact g3.elim
 |ptr r i o=>unfold RP at g3;exact g3.elim
 |eptr cs o=>unfold RP at g3;exact g3.elim
 |clo f rs=>unfold RP at g3;exact g3.elim
 |fv bs xs=>unfold RP at g3;exact g3.elim
 |old p xs=>unfold RP at g3;exact g3.elim
end
end Go.Proofs.YtdnnffbbhijmkaaGreat
namespace Go.Proofs.YtdnnffbbhijmkaaGreat
open Go.ChangeShapes Go.WideShapes Go.ChangeAt Go.RowKit Am Go.Proofs.Tryz
set_option maxRecDepth 100000
theorem Ev{P:Program}{f:FuncId}{args:List AT}{ab0:AB}{q:AB→Prop}(hc:cY P f args fun res rows=>∃ab,res= .o 0∧rows=[ab]∧q ab∧ab=ab0):cY P f args fun res rows=>res= .o 0∧rows=[ab0]:=
 Con.mono hc fun res h'⟨rows,h1,ab,h2,h3,_,h4⟩=>⟨rows,h1,h2,by rw [h3,h4]⟩
theorem aG{α:Type}(c:α→Array Value)(xs:List α):bR (vw c xs)=true:=by
 simp only [bR,vw,List.all_map,zqf]
 intro x _
 simp [lc]
def BU(gap z:Int):Int:=if 0<z then gap*(z-1)else 0
def yH(x:ah):Int:=x.before+x.behind
def ic(xs:List ah)(ys:List Int)(gap:Int):Int:=(xs.map yH).sum+BU gap xs.length+(ys.map id).sum
theorem Aw{gap z:Int}(hz:0≤z):BU gap (z+1)=BU gap z+if 0<z then gap else 0:=by
 unfold BU
 rw [if_pos (by omega)]
 by_cases h:0<z
 ·rw [if_pos h,if_pos h,show z+1-1=(z-1)+1 by omega,Int.mul_add,Int.mul_one]
 ·rw [if_neg h,if_neg h,show z+1-1=0 by omega,Int.mul_zero];rfl
theorem fV(xs:List ah)(ys:List Int)(gap:Int)(hx:xs.length≤1048576)(hy:ys.length≤1048576):PC0 338 [.c (.view (vw ah.c xs)),.c (.view (vw ao ys)),ai gap] (.i (wrap64 (ic xs ys gap))):=by
 obtain⟨V,hV⟩:=nmE (vw ah.c xs)
 obtain⟨W,hW⟩:=nmE (vw ao ys)
 have hVl:V.length=xs.length:=by rw [hV,af]
 have hWl:W.length=ys.length:=by rw [hW,af]
 rw [←hV,←hW]
 refine ae (aK f338) aD func338 fun g F hg hF=> ?_
 cbv
 refine bU hg aD (by kernel_rfl) (fun s:Int×Int=>[(0,.v V),(1,.v W),(2,.i gap),(7,.i s.2),(8,.i s.1)]) (fun _=>[]) (fun s=>0≤s.1∧s.1≤bg V∧s.2=wrap64 (wy yH xs s.1.toNat+BU gap s.1)) (fun s=>V.length-s.1.toNat)
  (0,0) [] ⟨Int.le_refl 0,by have:=aB V;simp only;omega,by rw [show((0,0):Int×Int).1.toNat=0 from rfl,jc];exact(aC 0 (by omega)).symm⟩ (wk0 ⟨rfl,rfl,rfl,rfl,rfl,trivial⟩) (fun s B hs hB=> ?_)
 obtain⟨z,a⟩:=s
 obtain⟨h0,h1,h2⟩:=hs
 simp only at h0 h1 h2
 cbv
 cases hc:g .q .lss z (g .ln V)
 ·rw [bn hg,bD hg,zqo]at hc
  cbv
  have ha:a=wrap64 ((xs.map yH).sum+BU gap xs.length):=by rw [h2,ly yH (by have:=aB V;omega),show z=(xs.length:Int) by have:=aB V;omega]
  refine bU hg aD (by kernel_rfl) (fun s:Int×Int=>[(1,.v W),(7,.i s.2),(9,.i s.1)]) (fun _=>[]) (fun s=>0≤s.1∧s.1≤bg W∧s.2=wrap64 ((xs.map yH).sum+BU gap xs.length+wy id ys s.1.toNat)) (fun s=>W.length-s.1.toNat)
   (0,a) [] ⟨Int.le_refl 0,by have:=aB W;simp only;omega,by rw [show((0,a):Int×Int).1.toNat=0 from rfl,jc,Int.add_zero];exact ha⟩ (wk0 ⟨rfl,rfl,rfl,trivial⟩) (fun s B2 hs hB2=> ?_)
  obtain⟨y,b⟩:=s
  obtain⟨k0,k1,k2⟩:=hs
  simp only at k0 k1 k2
  cbv
  cases hd:g .q .lss y (g .ln W)
  ·rw [bn hg,bD hg,zqo]at hd
   cbv
   exact ba hF (by rw [k2,ly id (by have:=aB W;omega)];rfl)
  ·rw [bn hg,bD hg,zqp]at hd
   cbv
   have hle:=aB W
   obtain⟨x,hxx⟩:=qT (xs:=ys) k0 (by omega)
   have hyy:W[y.toNat]? =some (lc (ao x)):=by rw [hW];exact bh hxx
   refine goX hg _ k0 hyy rfl ?_
   cbv
   have hle:=aB W
   have e1:g .w .add .i64 y 1=y+1:=by rw [aM hg,aC _ (by omega)]
   rw [e1,aM hg]
   refine gX hB2 (y+1,_) [] (wk0 ⟨rfl,rfl,rfl,trivial⟩) ⟨by simp only;omega,by simp only;omega,?_⟩ (by show W.length-(y+1).toNat<W.length-y.toNat;omega)
   show wrap64 (b+x)=_
   rw [show(y+1).toNat=y.toNat+1 by omega,jd id hxx,k2,mI,Int.add_assoc];rfl
 ·rw [bn hg,bD hg,zqp]at hc
  cbv
  have hle:=aB V
  obtain⟨x,hxx⟩:=qT (xs:=xs) h0 (by omega)
  have hyy:V[z.toNat]? =some (lc (ah.c x)):=by rw [hV];exact bh hxx
  have hs2:=jd yH hxx
  obtain⟨a0,a1,a2,a3,a4,a5,a6,a7,a8⟩:=x
  refine goX hg _ h0 hyy rfl ?_
  cbv
  refine goX hg _ h0 hyy rfl ?_
  cbv
  have hle:=aB V
  have e1:g .w .add .i64 z 1=z+1:=by rw [aM hg,aC _ (by omega)]
  have hg2:=Aw (gap:=gap) h0
  cases hp:g .q .gtr z 0
  ·rw [cj hg,zqo]at hp
   rw [if_neg (by omega),Int.add_zero]at hg2
   cbv
   rw [e1,aM hg,aM hg]
   refine gX hB (z+1,_) [] (wk0 ⟨rfl,rfl,rfl,rfl,rfl,trivial⟩) ⟨by simp only;omega,by simp only;omega,?_⟩ (by have:=aB V;show V.length-(z+1).toNat<V.length-z.toNat;omega)
   show wrap64 (wrap64 (a+a5)+a6)=_
   rw [show(z+1).toNat=z.toNat+1 by omega,hs2,hg2,h2]
   simp only [mI]
   exact congrArg wrap64 (by simp only [yH];omega)
  ·rw [cj hg,zqp]at hp
   rw [if_pos (by omega)]at hg2
   cbv
   rw [e1,aM hg,aM hg,aM hg]
   refine gX hB (z+1,_) [] (wk0 ⟨rfl,rfl,rfl,rfl,rfl,trivial⟩) ⟨by simp only;omega,by simp only;omega,?_⟩ (by have:=aB V;show V.length-(z+1).toNat<V.length-z.toNat;omega)
   show wrap64 (wrap64 (wrap64 (a+a5)+a6)+gap)=_
   rw [show(z+1).toNat=z.toNat+1 by omega,hs2,hg2,h2]
   simp only [mI]
   exact congrArg wrap64 (by simp only [yH];omega)
theorem eX(xs:List ah)(ys:List Int)(gap:Int)(hx:xs.length≤1048576)(hy:ys.length≤1048576):PC0 252 [.c (.view (vw ah.c xs)),.c (.view (vw ao ys)),ai gap] (.i (wrap64 (ic xs ys gap))):=by
 obtain⟨V,hV⟩:=nmE (vw ah.c xs)
 obtain⟨W,hW⟩:=nmE (vw ao ys)
 have hVl:V.length=xs.length:=by rw [hV,af]
 have hWl:W.length=ys.length:=by rw [hW,af]
 rw [←hV,←hW]
 refine ae (aK f252) aD func252 fun g F hg hF=> ?_
 cbv
 refine bU hg aD (by kernel_rfl) (fun s:Int×Int=>[(0,.v V),(2,.i gap),(7,.i s.2),(12,.v W),(13,.i (g .ln W)),(14,.i s.1)]) (fun _=>[]) (fun s=>0≤s.1∧s.1≤bg W∧s.2=wrap64 (wy id ys s.1.toNat)) (fun s=>W.length-s.1.toNat)
  (0,0) [] ⟨Int.le_refl 0,by have:=aB W;simp only;omega,by rw [show((0,0):Int×Int).1.toNat=0 from rfl,jc];exact(aC 0 (by omega)).symm⟩ (wk0 ⟨rfl,rfl,rfl,rfl,rfl,rfl,trivial⟩) (fun s B hs hB=> ?_)
 obtain⟨z,a⟩:=s
 obtain⟨h0,h1,h2⟩:=hs
 simp only at h0 h1 h2
 cbv
 cases hc:g .q .lss z (g .ln W)
 ·rw [bn hg,bD hg,zqo]at hc
  cbv
  have ha:a=wrap64 ((ys.map id).sum):=by rw [h2,ly id (by have:=aB W;omega)]
  refine bU hg aD (by kernel_rfl) (fun s:Int×Int=>[(0,.v V),(2,.i gap),(7,.i s.2),(22,.v V),(23,.i (g .ln V)),(24,.i s.1)]) (fun _=>[]) (fun s=>0≤s.1∧s.1≤bg V∧s.2=wrap64 ((ys.map id).sum+wy yH xs s.1.toNat)) (fun s=>V.length-s.1.toNat)
   (0,a) [] ⟨Int.le_refl 0,by have:=aB V;simp only;omega,by rw [show((0,a):Int×Int).1.toNat=0 from rfl,jc,Int.add_zero];exact ha⟩ (wk0 ⟨rfl,rfl,rfl,rfl,rfl,rfl,trivial⟩) (fun s B2 hs hB2=> ?_)
  obtain⟨y,b⟩:=s
  obtain⟨k0,k1,k2⟩:=hs
  simp only at k0 k1 k2
  cbv
  cases hd:g .q .lss y (g .ln V)
  ·rw [bn hg,bD hg,zqo]at hd
   cbv
   have kb:b=wrap64 ((ys.map id).sum+(xs.map yH).sum):=by rw [k2,ly yH (by have:=aB V;omega)]
   have hle:=aB V
   cases he:g .q .gtr (g .ln V) 0
   ·rw [cj hg,bD hg,zqo]at he
    cbv
    have hle:=aB V
    exact ba hF (by rw [kb];unfold ic BU;rw [if_neg (by omega)];exact congrArg wrap64 (by omega))
   ·rw [cj hg,bD hg,zqp]at he
    cbv
    have hle:=aB V
    exact ba hF (by
     rw [aM hg,fO hg,dd hg,bD hg,aC (bg V-1) (by omega),kb,mI,si]
     unfold ic BU
     rw [if_pos (by omega),show bg V=(xs.length:Int) by omega]
     exact congrArg wrap64 (by omega))
  ·rw [bn hg,bD hg,zqp]at hd
   cbv
   have hle:=aB V
   obtain⟨x,hxx⟩:=qT (xs:=xs) k0 (by omega)
   have hyy:V[y.toNat]? =some (lc (ah.c x)):=by rw [hV];exact bh hxx
   have hs2:=jd yH hxx
   obtain⟨a0,a1,a2,a3,a4,a5,a6,a7,a8⟩:=x
   refine goX hg _ k0 hyy rfl ?_
   cbv
   have hle:=aB V
   have e1:g .w .add .i64 y 1=y+1:=by rw [aM hg,aC _ (by omega)]
   rw [e1,aM hg,aM hg]
   refine gX hB2 (y+1,_) [] (wkS [] (by decide) trivial ⟨rfl,rfl,rfl,rfl,rfl,rfl,trivial⟩) ⟨by simp only;omega,by simp only;omega,?_⟩ (by show V.length-(y+1).toNat<V.length-y.toNat;omega)
   show wrap64 (b+wrap64 (a5+a6))=_
   rw [show(y+1).toNat=y.toNat+1 by omega,hs2,k2,mI,si]
   exact congrArg wrap64 (by simp only [yH];omega)
 ·rw [bn hg,bD hg,zqp]at hc
  cbv
  have hle:=aB W
  obtain⟨x,hxx⟩:=qT (xs:=ys) h0 (by omega)
  have hyy:W[z.toNat]? =some (lc (ao x)):=by rw [hW];exact bh hxx
  refine goX hg _ h0 hyy rfl ?_
  cbv
  have hle:=aB W
  have e1:g .w .add .i64 z 1=z+1:=by rw [aM hg,aC _ (by omega)]
  rw [e1,aM hg]
  refine gX hB (z+1,_) [] (wk0 ⟨rfl,rfl,rfl,rfl,rfl,rfl,trivial⟩) ⟨by simp only;omega,by simp only;omega,?_⟩ (by show W.length-(z+1).toNat<W.length-z.toNat;omega)
  show wrap64 (a+x)=_
  rw [show(z+1).toNat=z.toNat+1 by omega,jd id hxx,h2,mI];rfl
def vwA{α:Type}(c:α→List AC)(xs:List α):LLA:=xs.map c
theorem bE{α:Type}(c:α→List AC)(xs:List α):(vwA c xs).length=xs.length:=by simp [vwA]
theorem gV{α:Type}{c:α→List AC}{xs:List α}{i:Nat}{x:α}(h:xs[i]? =some x):(vwA c xs)[i]? =some (c x):=by simp [vwA,h]
theorem yt{α:Type}{c:α→List AC}{k:Nat}(hk:∀x,(c x).length=k){xs:List α}:∀y∈vwA c xs,y.length=k:=by
 intro y hy
 simp only [vwA,List.mem_map]at hy
 obtain⟨x,_,rfl⟩:=hy
 exact hk x
theorem nT{α:Type}{c:α→List AC}(hd:∀x,(c x).all dat=true){xs:List α}:∀y∈vwA c xs,y.all dat=true:=by
 intro y hy
 simp only [vwA,List.mem_map]at hy
 obtain⟨x,_,rfl⟩:=hy
 exact hd x
theorem kh{α:Type}{c:α→List AC}(hp:∀x,(c x).all dz=true)(xs:List α):aj (vwA c xs)=true:=by
 simp only [aj,zqf]
 intro y hy
 simp only [vwA,List.mem_map]at hy
 obtain⟨x,_,rfl⟩:=hy
 exact List.all_eq_true.1 (hp x)
theorem tA{α:Type}{c:α→List AC}{q:List AC→Prop}{p:α→Prop}(hq:∀x,q x→∃a,x=c a∧p a):∀{xs:LLA},(∀x∈xs,q x)→∃l:List α,xs=vwA c l∧∀a∈l,p a
 | [],_=>⟨[],rfl,by simp⟩
 |x::xs,h=>by
  obtain⟨a,ha,hp⟩:=hq x (h x (by simp))
  obtain⟨l,hl,hpl⟩:=tA hq (xs:=xs) fun y hy=>h y (by simp [hy])
  exact⟨a::l,by rw [ha,hl];rfl,fun b hb=>by rcases List.mem_cons.1 hb with rfl|hb;exact hp;exact hpl b hb⟩
theorem xz{α:Type}{c:α→Array Value}{q:List AC→Prop}(hq:∀x,q x→∃a,x=lc (c a)){xs:LLA}(h:∀x∈xs,q x):∃l:List α,xs=vw c l:=by
 obtain⟨l,hl,_⟩:=tA (c:=fun a=>lc (c a)) (p:=fun _=>True) (fun x hx=>let⟨a,ha⟩:=hq x hx;⟨a,ha,trivial⟩) h
 exact⟨l,hl⟩
theorem aU{k:Sh}{ks:List Sh}:∀{xs:List AC},DtL (k::ks) xs→∃c cs,xs=c::cs∧Dt k c∧DtL ks cs
 | [],h=>by simp [DtL]at h
 |c::cs,h=>by unfold DtL at h;exact⟨c,cs,rfl,h.1,h.2⟩
theorem xX:∀{xs:List AC},DtL [] xs→xs=[]
 | [],_=>rfl
 |_::_,h=>by simp [DtL]at h
theorem fg{c:AC}(h:Dt .i c):∃n,c= .J n:=by unfold Dt at h;obtain⟨n,_,h⟩:=h;exact⟨n,h⟩
theorem GB{c:AC}(h:Dt .b c):∃n,c= .B n:=by unfold Dt at h;exact h
theorem GA{ks:List Sh}{c:AC}(h:Dt (.s ks) c):∃xs:LLA,c= .view xs∧xs.length≤9223372036854775807∧∀x∈xs,DtL ks x:=by unfold Dt at h;exact h
theorem gJ{n:Nat}{a z:Int}(h:a=(n:Int))(hz:z<a):z<(n:Int):=h▸hz
theorem CV{es V:LLA}{z:Int}(hl:es.length=V.length)(hz:z<bg V):z<bg es:=by rw [aB]at hz⊢;rw [hl];exact hz
theorem wE{es:LLA}{z:Int}{j:Nat}(h0:0≤z)(hc:z<bg es)(hj:j=z.toNat):j<es.length:=by subst hj;rw [aB]at hc;omega
theorem xn{V:LLA}{n:Nat}{L:Int}(hl:V.length=n)(h:(V.length:Int)≤L)(hL:L≤1048576):n≤1048576:=by omega
theorem pr{α:Type}{xs:List α}{p:α→Prop}{M z:Int}(hM:M=(xs.length:Int))(hz:M≤z)(h:∀(i:Nat)(y:α),i<z.toNat→xs[i]? =some y→p y):∀y∈xs,p y:=fun y hy=>by
 obtain⟨i,hi,he⟩:=List.getElem_of_mem hy
 exact h i y (by omega) (by rw [zqc hi,he])
theorem GO{P:Program}{n0 N:Nat}{g:Gd}(hg:g=G0 P n0 N){xs:LLA}{z:Int}{j k:Nat}{K:Nat→Prop}(hz:0≤z)(hj:j=z.toNat)(hy:j<xs.length)(hK:K j):g .Y k xs z K:=by subst hg hj;exact⟨hz,hy,hK⟩
theorem yS{P:Program}{n0 N:Nat}{g:Gd}(hg:g=G0 P n0 N){h:EH}{f:FuncId}{args:List AT}{K:AV→EH→Prop}{Q:Int→Prop}(hc:cY P f args fun res rows=>∃R:Int,res= .i R∧rows=[]∧Q R)(hp:i7 args=true)
  (hK:∀R,Q R→K (.t (.c (.J R))) (h++[])):g .C f h args K:=
 sa hg (fj hc hp fun res rows⟨R,h1,h2,h3⟩=>by subst h1 h2;exact⟨[],rfl,hK R h3⟩)
theorem Be{F:List AT→EH→Prop}{eh:EH}{Q:Int→Prop}{z:Int}(hF:F=nR 0 (fun res h'=>∃rows,h'=rows.map .live∧(∃R:Int,res= .i R∧rows=[]∧Q R)))(h:Q z):F [.c (.J z)] eh:=
 dY hF rfl ⟨z,rfl,rfl,h⟩
theorem szZ{P:Program}{f:FuncId}{args:List AT}{V:LLA}{L:Int}(hc:cY P f args fun res rows=>res= .i (szR (bg V) L)∧rows=[]):cY P f args fun res rows=>∃R:Int,res= .i R∧rows=[]∧(R≤L∨R<0)∧(0≤R→(V.length:Int)≤L):=
 Con.mono hc fun res h'⟨rows,h1,h2,h3⟩=>⟨rows,h1,_,h2,h3,by unfold szR;rw [aB];split<;>omega,by unfold szR;rw [aB];split<;>omega⟩
theorem aJ.of_(x:List AC)(h:DtL [.i,.i,.i] x):∃a:aJ,x=lc (aJ.c a):=by
 obtain⟨c0,t0,rfl,d0,h⟩:=aU h
 obtain⟨c1,t1,rfl,d1,h⟩:=aU h
 obtain⟨c2,t2,rfl,d2,h⟩:=aU h
 obtain rfl:=xX h
 obtain⟨a0,rfl⟩:=fg d0
 obtain⟨a1,rfl⟩:=fg d1
 obtain⟨a2,rfl⟩:=fg d2
 exact⟨⟨a0,a1,a2⟩,rfl⟩
structure j7 where
 rules:List aJ
def j7.ac:j7→List AC
 |⟨a0⟩=>[.view (vw aJ.c a0)]
def j7.small:j7→Prop
 |⟨a0⟩=>a0.length≤1048576∧True
def j7.fit:j7→Prop
 |⟨a0⟩=>a0.length≤9223372036854775807∧True
theorem Int.of_(x:List AC)(h:DtL [.i] x):∃a:Int,x=lc (ao a):=by
 obtain⟨c0,t0,rfl,d0,h⟩:=aU h
 obtain rfl:=xX h
 obtain⟨a0,rfl⟩:=fg d0
 exact⟨a0,rfl⟩
structure ak where
 up:Int
 kids:List Int
 style:ar
 measured:Bool
 table:j7
def ak.ac:ak→List AC
 |⟨a0,a1,⟨a2,a3,a4,a5,a6,a7,a8,a9,a10,a11,a12,⟨a13,a14⟩,⟨a15,a16⟩,⟨a17,a18⟩,⟨a19,a20⟩,⟨a21,a22⟩,⟨a23,a24⟩,⟨a25,a26⟩,a27,⟨⟨a28,a29⟩,⟨a30,a31⟩,⟨a32,a33⟩,⟨a34,a35⟩,⟨a36,a37⟩,⟨a38,a39⟩⟩,⟨⟨a40,a41⟩,⟨a42,a43⟩,⟨a44,a45⟩,⟨a46,a47⟩,⟨a48,a49⟩,⟨a50,a51⟩⟩,⟨a52,a53,a54,a55⟩,⟨a56,a57,a58,a59⟩,a60,a61⟩,a62,⟨a63⟩⟩=>[.imm (.int .i64 a0),.view (vw ao a1),.imm (.int .i64 a2),.imm (.int .i64 a3),.imm (.int .i64 a4),.imm (.int .i64 a5),.imm (.int .i64 a6),.imm (.int .i64 a7),.imm (.bool a8),.imm (.bool a9),.imm (.int .i64 a10),.imm (.int .i64 a11),.imm (.int .i64 a12),.imm (.int .i64 a13),.imm (.int .i64 a14),.imm (.int .i64 a15),.imm (.int .i64 a16),.imm (.int .i64 a17),.imm (.int .i64 a18),.imm (.int .i64 a19),.imm (.int .i64 a20),.imm (.int .i64 a21),.imm (.int .i64 a22),.imm (.int .i64 a23),.imm (.int .i64 a24),.imm (.int .i64 a25),.imm (.int .i64 a26),.imm (.int .i64 a27),.imm (.int .i64 a28),.imm (.int .i64 a29),.imm (.int .i64 a30),.imm (.int .i64 a31),.imm (.int .i64 a32),.imm (.int .i64 a33),.imm (.int .i64 a34),.imm (.int .i64 a35),.imm (.int .i64 a36),.imm (.int .i64 a37),.imm (.int .i64 a38),.imm (.int .i64 a39),.imm (.int .i64 a40),.imm (.int .i64 a41),.imm (.int .i64 a42),.imm (.int .i64 a43),.imm (.int .i64 a44),.imm (.int .i64 a45),.imm (.int .i64 a46),.imm (.int .i64 a47),.imm (.int .i64 a48),.imm (.int .i64 a49),.imm (.int .i64 a50),.imm (.int .i64 a51),.imm (.int .i64 a52),.imm (.int .i64 a53),.imm (.int .i64 a54),.imm (.int .i64 a55),.imm (.int .i64 a56),.imm (.int .i64 a57),.imm (.int .i64 a58),.imm (.int .i64 a59),.imm (.int .i64 a60),.imm (.int .i64 a61),.imm (.bool a62),.view (vw aJ.c a63)]
def ak.sh:List Sh:=[.i,.s [.i],.i,.i,.i,.i,.i,.i,.b,.b,.i,.i,.i,.i,.i,.i,.i,.i,.i,.i,.i,.i,.i,.i,.i,.i,.i,.i,.i,.i,.i,.i,.i,.i,.i,.i,.i,.i,.i,.i,.i,.i,.i,.i,.i,.i,.i,.i,.i,.i,.i,.i,.i,.i,.i,.i,.i,.i,.i,.i,.i,.i,.b,.s [.i,.i,.i]]
def ak.small:ak→Prop
 |⟨a0,a1,⟨a2,a3,a4,a5,a6,a7,a8,a9,a10,a11,a12,⟨a13,a14⟩,⟨a15,a16⟩,⟨a17,a18⟩,⟨a19,a20⟩,⟨a21,a22⟩,⟨a23,a24⟩,⟨a25,a26⟩,a27,⟨⟨a28,a29⟩,⟨a30,a31⟩,⟨a32,a33⟩,⟨a34,a35⟩,⟨a36,a37⟩,⟨a38,a39⟩⟩,⟨⟨a40,a41⟩,⟨a42,a43⟩,⟨a44,a45⟩,⟨a46,a47⟩,⟨a48,a49⟩,⟨a50,a51⟩⟩,⟨a52,a53,a54,a55⟩,⟨a56,a57,a58,a59⟩,a60,a61⟩,a62,⟨a63⟩⟩=>a1.length≤1048576∧a63.length≤1048576∧True
def ak.fit:ak→Prop
 |⟨a0,a1,⟨a2,a3,a4,a5,a6,a7,a8,a9,a10,a11,a12,⟨a13,a14⟩,⟨a15,a16⟩,⟨a17,a18⟩,⟨a19,a20⟩,⟨a21,a22⟩,⟨a23,a24⟩,⟨a25,a26⟩,a27,⟨⟨a28,a29⟩,⟨a30,a31⟩,⟨a32,a33⟩,⟨a34,a35⟩,⟨a36,a37⟩,⟨a38,a39⟩⟩,⟨⟨a40,a41⟩,⟨a42,a43⟩,⟨a44,a45⟩,⟨a46,a47⟩,⟨a48,a49⟩,⟨a50,a51⟩⟩,⟨a52,a53,a54,a55⟩,⟨a56,a57,a58,a59⟩,a60,a61⟩,a62,⟨a63⟩⟩=>a1.length≤9223372036854775807∧a63.length≤9223372036854775807∧True
theorem ak.len(x:ak):x.ac.length=64:=rfl
theorem ak.dat(x:ak):x.ac.all Am.dat=true:=rfl
theorem ak.plain(x:ak):x.ac.all Am.dz=true:=rfl
theorem ak.of_(x:List AC)(h:DtL ak.sh x):∃a:ak,x=a.ac∧a.fit:=by
 obtain⟨c0,t0,rfl,d0,h⟩:=aU h
 obtain⟨c1,t1,rfl,d1,h⟩:=aU h
 obtain⟨c2,t2,rfl,d2,h⟩:=aU h
 obtain⟨c3,t3,rfl,d3,h⟩:=aU h
 obtain⟨c4,t4,rfl,d4,h⟩:=aU h
 obtain⟨c5,t5,rfl,d5,h⟩:=aU h
 obtain⟨c6,t6,rfl,d6,h⟩:=aU h
 obtain⟨c7,t7,rfl,d7,h⟩:=aU h
 obtain⟨c8,t8,rfl,d8,h⟩:=aU h
 obtain⟨c9,t9,rfl,d9,h⟩:=aU h
 obtain⟨c10,t10,rfl,d10,h⟩:=aU h
 obtain⟨c11,t11,rfl,d11,h⟩:=aU h
 obtain⟨c12,t12,rfl,d12,h⟩:=aU h
 obtain⟨c13,t13,rfl,d13,h⟩:=aU h
 obtain⟨c14,t14,rfl,d14,h⟩:=aU h
 obtain⟨c15,t15,rfl,d15,h⟩:=aU h
 obtain⟨c16,t16,rfl,d16,h⟩:=aU h
 obtain⟨c17,t17,rfl,d17,h⟩:=aU h
 obtain⟨c18,t18,rfl,d18,h⟩:=aU h
 obtain⟨c19,t19,rfl,d19,h⟩:=aU h
 obtain⟨c20,t20,rfl,d20,h⟩:=aU h
 obtain⟨c21,t21,rfl,d21,h⟩:=aU h
 obtain⟨c22,t22,rfl,d22,h⟩:=aU h
 obtain⟨c23,t23,rfl,d23,h⟩:=aU h
 obtain⟨c24,t24,rfl,d24,h⟩:=aU h
 obtain⟨c25,t25,rfl,d25,h⟩:=aU h
 obtain⟨c26,t26,rfl,d26,h⟩:=aU h
 obtain⟨c27,t27,rfl,d27,h⟩:=aU h
 obtain⟨c28,t28,rfl,d28,h⟩:=aU h
 obtain⟨c29,t29,rfl,d29,h⟩:=aU h
 obtain⟨c30,t30,rfl,d30,h⟩:=aU h
 obtain⟨c31,t31,rfl,d31,h⟩:=aU h
 obtain⟨c32,t32,rfl,d32,h⟩:=aU h
 obtain⟨c33,t33,rfl,d33,h⟩:=aU h
 obtain⟨c34,t34,rfl,d34,h⟩:=aU h
 obtain⟨c35,t35,rfl,d35,h⟩:=aU h
 obtain⟨c36,t36,rfl,d36,h⟩:=aU h
 obtain⟨c37,t37,rfl,d37,h⟩:=aU h
 obtain⟨c38,t38,rfl,d38,h⟩:=aU h
 obtain⟨c39,t39,rfl,d39,h⟩:=aU h
 obtain⟨c40,t40,rfl,d40,h⟩:=aU h
 obtain⟨c41,t41,rfl,d41,h⟩:=aU h
 obtain⟨c42,t42,rfl,d42,h⟩:=aU h
 obtain⟨c43,t43,rfl,d43,h⟩:=aU h
 obtain⟨c44,t44,rfl,d44,h⟩:=aU h
 obtain⟨c45,t45,rfl,d45,h⟩:=aU h
 obtain⟨c46,t46,rfl,d46,h⟩:=aU h
 obtain⟨c47,t47,rfl,d47,h⟩:=aU h
 obtain⟨c48,t48,rfl,d48,h⟩:=aU h
 obtain⟨c49,t49,rfl,d49,h⟩:=aU h
 obtain⟨c50,t50,rfl,d50,h⟩:=aU h
 obtain⟨c51,t51,rfl,d51,h⟩:=aU h
 obtain⟨c52,t52,rfl,d52,h⟩:=aU h
 obtain⟨c53,t53,rfl,d53,h⟩:=aU h
 obtain⟨c54,t54,rfl,d54,h⟩:=aU h
 obtain⟨c55,t55,rfl,d55,h⟩:=aU h
 obtain⟨c56,t56,rfl,d56,h⟩:=aU h
 obtain⟨c57,t57,rfl,d57,h⟩:=aU h
 obtain⟨c58,t58,rfl,d58,h⟩:=aU h
 obtain⟨c59,t59,rfl,d59,h⟩:=aU h
 obtain⟨c60,t60,rfl,d60,h⟩:=aU h
 obtain⟨c61,t61,rfl,d61,h⟩:=aU h
 obtain⟨c62,t62,rfl,d62,h⟩:=aU h
 obtain⟨c63,t63,rfl,d63,h⟩:=aU h
 obtain rfl:=xX h
 obtain⟨a0,rfl⟩:=fg d0
 obtain⟨w1,rfl,l1,e1⟩:=GA d1
 obtain⟨a1,rfl⟩:=xz (c:=ao) Int.of_ e1
 rw [af]at l1
 obtain⟨a2,rfl⟩:=fg d2
 obtain⟨a3,rfl⟩:=fg d3
 obtain⟨a4,rfl⟩:=fg d4
 obtain⟨a5,rfl⟩:=fg d5
 obtain⟨a6,rfl⟩:=fg d6
 obtain⟨a7,rfl⟩:=fg d7
 obtain⟨a8,rfl⟩:=GB d8
 obtain⟨a9,rfl⟩:=GB d9
 obtain⟨a10,rfl⟩:=fg d10
 obtain⟨a11,rfl⟩:=fg d11
 obtain⟨a12,rfl⟩:=fg d12
 obtain⟨a13,rfl⟩:=fg d13
 obtain⟨a14,rfl⟩:=fg d14
 obtain⟨a15,rfl⟩:=fg d15
 obtain⟨a16,rfl⟩:=fg d16
 obtain⟨a17,rfl⟩:=fg d17
 obtain⟨a18,rfl⟩:=fg d18
 obtain⟨a19,rfl⟩:=fg d19
 obtain⟨a20,rfl⟩:=fg d20
 obtain⟨a21,rfl⟩:=fg d21
 obtain⟨a22,rfl⟩:=fg d22
 obtain⟨a23,rfl⟩:=fg d23
 obtain⟨a24,rfl⟩:=fg d24
 obtain⟨a25,rfl⟩:=fg d25
 obtain⟨a26,rfl⟩:=fg d26
 obtain⟨a27,rfl⟩:=fg d27
 obtain⟨a28,rfl⟩:=fg d28
 obtain⟨a29,rfl⟩:=fg d29
 obtain⟨a30,rfl⟩:=fg d30
 obtain⟨a31,rfl⟩:=fg d31
 obtain⟨a32,rfl⟩:=fg d32
 obtain⟨a33,rfl⟩:=fg d33
 obtain⟨a34,rfl⟩:=fg d34
 obtain⟨a35,rfl⟩:=fg d35
 obtain⟨a36,rfl⟩:=fg d36
 obtain⟨a37,rfl⟩:=fg d37
 obtain⟨a38,rfl⟩:=fg d38
 obtain⟨a39,rfl⟩:=fg d39
 obtain⟨a40,rfl⟩:=fg d40
 obtain⟨a41,rfl⟩:=fg d41
 obtain⟨a42,rfl⟩:=fg d42
 obtain⟨a43,rfl⟩:=fg d43
 obtain⟨a44,rfl⟩:=fg d44
 obtain⟨a45,rfl⟩:=fg d45
 obtain⟨a46,rfl⟩:=fg d46
 obtain⟨a47,rfl⟩:=fg d47
 obtain⟨a48,rfl⟩:=fg d48
 obtain⟨a49,rfl⟩:=fg d49
 obtain⟨a50,rfl⟩:=fg d50
 obtain⟨a51,rfl⟩:=fg d51
 obtain⟨a52,rfl⟩:=fg d52
 obtain⟨a53,rfl⟩:=fg d53
 obtain⟨a54,rfl⟩:=fg d54
 obtain⟨a55,rfl⟩:=fg d55
 obtain⟨a56,rfl⟩:=fg d56
 obtain⟨a57,rfl⟩:=fg d57
 obtain⟨a58,rfl⟩:=fg d58
 obtain⟨a59,rfl⟩:=fg d59
 obtain⟨a60,rfl⟩:=fg d60
 obtain⟨a61,rfl⟩:=fg d61
 obtain⟨a62,rfl⟩:=GB d62
 obtain⟨w63,rfl,l63,e63⟩:=GA d63
 obtain⟨a63,rfl⟩:=xz (c:=aJ.c) aJ.of_ e63
 rw [af]at l63
 exact⟨⟨a0,a1,⟨a2,a3,a4,a5,a6,a7,a8,a9,a10,a11,a12,⟨a13,a14⟩,⟨a15,a16⟩,⟨a17,a18⟩,⟨a19,a20⟩,⟨a21,a22⟩,⟨a23,a24⟩,⟨a25,a26⟩,a27,⟨⟨a28,a29⟩,⟨a30,a31⟩,⟨a32,a33⟩,⟨a34,a35⟩,⟨a36,a37⟩,⟨a38,a39⟩⟩,⟨⟨a40,a41⟩,⟨a42,a43⟩,⟨a44,a45⟩,⟨a46,a47⟩,⟨a48,a49⟩,⟨a50,a51⟩⟩,⟨a52,a53,a54,a55⟩,⟨a56,a57,a58,a59⟩,a60,a61⟩,a62,⟨a63⟩⟩,rfl,⟨l1,l63,trivial⟩⟩
structure kf where
 nodes:List ak
def kf.ac:kf→List AC
 |⟨a0⟩=>[.view (vwA ak.ac a0)]
def kf.sh:List Sh:=[.s ak.sh]
def kf.small:kf→Prop
 |⟨a0⟩=>a0.length≤1048576∧(∀y∈a0,ak.small y)∧True
def kf.fit:kf→Prop
 |⟨a0⟩=>a0.length≤9223372036854775807∧(∀y∈a0,ak.fit y)∧True
theorem kf.of_(x:List AC)(h:DtL kf.sh x):∃a:kf,x=a.ac∧a.fit:=by
 obtain⟨c0,t0,rfl,d0,h⟩:=aU h
 obtain rfl:=xX h
 obtain⟨w0,rfl,l0,e0⟩:=GA d0
 obtain⟨a0,rfl,f0⟩:=tA (c:=ak.ac) ak.of_ e0
 rw [bE]at l0
 exact⟨⟨a0⟩,rfl,⟨l0,f0,trivial⟩⟩
structure jK where
 wide:Int
 high:Int
 base:Int
 frames:List aV
def jK.ac:jK→List AC
 |⟨a0,a1,a2,a3⟩=>[.imm (.int .i64 a0),.imm (.int .i64 a1),.imm (.int .i64 a2),.view (vw aV.c a3)]
structure ov where
 node:Int
 wide:aw
 high:aw
 rtl:Bool
 box:jK
def ov.ac:ov→List AC
 |⟨a0,⟨a1,a2⟩,⟨a3,a4⟩,a5,⟨a6,a7,a8,a9⟩⟩=>[.imm (.int .i64 a0),.imm (.int .i64 a1),.imm (.int .i64 a2),.imm (.int .i64 a3),.imm (.int .i64 a4),.imm (.bool a5),.imm (.int .i64 a6),.imm (.int .i64 a7),.imm (.int .i64 a8),.view (vw aV.c a9)]
end Go.Proofs.YtdnnffbbhijmkaaGreat
