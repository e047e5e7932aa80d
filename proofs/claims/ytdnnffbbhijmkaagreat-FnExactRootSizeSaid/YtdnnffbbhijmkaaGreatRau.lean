/- Lines: their length, how much they are spread, whether they are filled. -/
import Derived.Test.YtdnnffbbhijmkaaGreatRat
set_option linter.unusedVariables false
set_option linter.unusedSimpArgs false
set_option maxHeartbeats 8000000
namespace Go.Proofs.YtdnnffbbhijmkaaGreat
open Go.ChangeShapes Go.WideShapes Go.ChangeAt Go.RowKit Am Go.Proofs.Tryz
set_option maxRecDepth 100000
theorem Ai{F:Nat→Prop}{w:World}:∀(j:Nat)(x:AT),([]:List AT)[j]? =some x→∃v,([]:List Value)[j]? =some v∧RT F w [] [] x v:=fun j x h=>by simp at h
theorem jd{F:Nat→Prop}{w:World}{x:AT}{v:Value}{xs:List AT}{vs:List Value}(h1:RT F w [] [] x v)(h2:∀(j:Nat)(x:AT),xs[j]? =some x→∃v,vs[j]? =some v∧RT F w [] [] x v):
  ∀(j:Nat)(y:AT),(x::xs)[j]? =some y→∃u,(v::vs)[j]? =some u∧RT F w [] [] y u:=fun j y h=>by
 cases j with
 |zero=>simp only [zqw,zqy]at h;subst h;exact⟨v,rfl,h1⟩
 |succ j=>exact h2 j y (by simpa using h)
theorem eU(n:Int):PC0 126 [ai n] (.t (.agg [.J 3,.J n])):=by
 refine ae (aN f126) aB func126 fun g F hg hF=> ?_
 cbv
 all_goals exact kY hF (by exact⟨rfl,rfl⟩)
theorem lK(s:aq)(w:Bool)(n:Int):PC0 233 [.agg (lc (aq.c s)),abl w,ai n] (.t (agP (fw s w n))):=by
 refine ae (aN f233) aB func233 fun g F hg hF=> ?_
 cbv
 repeat'(first|((first|refine bm hg (ec s _ _) rfl (fun R0 hR0=> ?_)|refine aU hg (ec s _ _) rfl (fun R0 hR0=> ?_)|refine bm hg (ch s _ _ _) rfl (fun R0 hR0=> ?_)|refine aU hg (ch s _ _ _) rfl (fun R0 hR0=> ?_));cbv)|(split<;>rename_i hh<;>(try rw [hh])<;>(try simp only [dl hg]at hh)<;>cbv))
 all_goals exact kY hF (by simp only [fw];subst_vars;grind)
theorem jJ(s:aq)(w:Bool)(n:Int):PC0 237 [.agg (lc (aq.c s)),abl w,ai n] (.t (agP (fw s w n))):=by
 refine ae (aN f237) aB func237 fun g F hg hF=> ?_
 cbv
 repeat'(first|((first|refine bm hg (ej s _ _) rfl (fun R0 hR0=> ?_)|refine aU hg (ej s _ _) rfl (fun R0 hR0=> ?_)|refine bm hg (dd s _ _ _) rfl (fun R0 hR0=> ?_)|refine aU hg (dd s _ _ _) rfl (fun R0 hR0=> ?_)|refine nY hg (eU _) rfl (fun R0 R1 hR0 hR1=> ?_)|refine jb hg (eU _) rfl (fun R0 R1 hR0 hR1=> ?_));cbv)|(split<;>rename_i hh<;>(try rw [hh])<;>(try simp only [dl hg]at hh)<;>cbv))
 all_goals exact kY hF (by simp only [fw];subst_vars;grind)
theorem nF(s:aq)(w h:Int):PC0 152 [.agg (lc (aq.c s)),ai w,ai h] (.tup [agP (fw s true w),agP (fw s false h)]):=by
 refine ae (aN f152) aB func152 fun g F hg hF=> ?_
 cbv
 repeat'(first|((first|refine nY hg (lK s _ _) rfl (fun R0 R1 hR0 hR1=> ?_)|refine jb hg (lK s _ _) rfl (fun R0 R1 hR0 hR1=> ?_));cbv)|(split<;>rename_i hh<;>(try rw [hh])<;>(try simp only [dl hg]at hh)<;>cbv))
 all_goals exact EG hF (by subst_vars;exact⟨rfl,rfl,rfl,rfl⟩)
theorem nS(s:aq)(w h:Int):PC0 157 [.agg (lc (aq.c s)),ai w,ai h] (.tup [agP (fw s true w),agP (fw s false h)]):=by
 refine ae (aN f157) aB func157 fun g F hg hF=> ?_
 cbv
 repeat'(first|((first|refine nY hg (jJ s _ _) rfl (fun R0 R1 hR0 hR1=> ?_)|refine jb hg (jJ s _ _) rfl (fun R0 R1 hR0 hR1=> ?_));cbv)|(split<;>rename_i hh<;>(try rw [hh])<;>(try simp only [dl hg]at hh)<;>cbv))
 all_goals exact EG hF (by subst_vars;exact⟨rfl,rfl,rfl,rfl⟩)
end Go.Proofs.YtdnnffbbhijmkaaGreat
namespace Go.Proofs.YtdnnffbbhijmkaaGreat
open Go.ChangeShapes Go.WideShapes Go.ChangeAt Go.RowKit
set_option maxRecDepth 100000
def dt(s:bd)(sd:Int)(rtl:Bool):bN:=
 if sd=1 then s.top else if sd=3 then s.bottom
 else if sd=0 then(if(if rtl then s.fin else s.start).kind≠0 then(if rtl then s.fin else s.start)else s.left)
 else if sd=2 then(if(if rtl then s.start else s.fin).kind≠0 then(if rtl then s.start else s.fin)else s.right)else⟨0,0⟩
theorem tJ(s:bd)(sd:Int)(rtl:Bool)(w:World):
  Calls Tryz.prog 218 #[.agg #[.int .i64 s.left.kind,.int .i64 s.left.n,.int .i64 s.top.kind,.int .i64 s.top.n,.int .i64 s.right.kind,.int .i64 s.right.n,.int .i64 s.bottom.kind,.int .i64 s.bottom.n,.int .i64 s.start.kind,.int .i64 s.start.n,.int .i64 s.fin.kind,.int .i64 s.fin.n],.int .i64 sd,.bool rtl] w fun e w'=>e= .returned (.agg #[.int .i64 (dt s sd rtl).kind,.int .i64 (dt s sd rtl).n])∧Below w.heap.size w w':=by
 by_cases h1:sd=1
 ·subst h1
  cases rtl
  ·go_enter Tryz.func218,Tryz.ntmps218
   go_wp2
   go_region
   all_goals go_wp2
   all_goals(try go_wp2)
   all_goals(refine bodyPost_ret (v:= .agg #[.int .i64 (dt s 1 false).kind,.int .i64 (dt s 1 false).n]) (by simp [results,Tryz.results218,go_sem,dt, *]) rfl ?_)
   all_goals exact⟨rfl,by repeat(first|(with_reducible exact eo _)|(with_reducible assumption)|(with_reducible refine Below.setCell ?_ (by first|omega|(simp;done)|(simp;omega)) _)|(with_reducible refine bS ?_ _)|(with_reducible refine Below.drew ?_)|(with_reducible refine bu ?_ (by with_reducible assumption))|(with_reducible refine bu ?_ (du _ _)))⟩
  ·go_enter Tryz.func218,Tryz.ntmps218
   go_wp2
   go_region
   all_goals go_wp2
   all_goals(try go_wp2)
   all_goals(refine bodyPost_ret (v:= .agg #[.int .i64 (dt s 1 true).kind,.int .i64 (dt s 1 true).n]) (by simp [results,Tryz.results218,go_sem,dt, *]) rfl ?_)
   all_goals exact⟨rfl,by repeat(first|(with_reducible exact eo _)|(with_reducible assumption)|(with_reducible refine Below.setCell ?_ (by first|omega|(simp;done)|(simp;omega)) _)|(with_reducible refine bS ?_ _)|(with_reducible refine Below.drew ?_)|(with_reducible refine bu ?_ (by with_reducible assumption))|(with_reducible refine bu ?_ (du _ _)))⟩
 by_cases h3:sd=3
 ·subst h3
  cases rtl
  ·go_enter Tryz.func218,Tryz.ntmps218
   go_wp2
   go_region
   all_goals go_wp2
   all_goals(try go_wp2)
   all_goals(refine bodyPost_ret (v:= .agg #[.int .i64 (dt s 3 false).kind,.int .i64 (dt s 3 false).n]) (by simp [results,Tryz.results218,go_sem,dt, *]) rfl ?_)
   all_goals exact⟨rfl,by repeat(first|(with_reducible exact eo _)|(with_reducible assumption)|(with_reducible refine Below.setCell ?_ (by first|omega|(simp;done)|(simp;omega)) _)|(with_reducible refine bS ?_ _)|(with_reducible refine Below.drew ?_)|(with_reducible refine bu ?_ (by with_reducible assumption))|(with_reducible refine bu ?_ (du _ _)))⟩
  ·go_enter Tryz.func218,Tryz.ntmps218
   go_wp2
   go_region
   all_goals go_wp2
   all_goals(try go_wp2)
   all_goals(refine bodyPost_ret (v:= .agg #[.int .i64 (dt s 3 true).kind,.int .i64 (dt s 3 true).n]) (by simp [results,Tryz.results218,go_sem,dt, *]) rfl ?_)
   all_goals exact⟨rfl,by repeat(first|(with_reducible exact eo _)|(with_reducible assumption)|(with_reducible refine Below.setCell ?_ (by first|omega|(simp;done)|(simp;omega)) _)|(with_reducible refine bS ?_ _)|(with_reducible refine Below.drew ?_)|(with_reducible refine bu ?_ (by with_reducible assumption))|(with_reducible refine bu ?_ (du _ _)))⟩
 by_cases h0:sd=0
 ·subst h0
  cases rtl
  ·by_cases hk:s.start.kind=0
   ·go_enter Tryz.func218,Tryz.ntmps218
    go_wp2
    go_region
    all_goals go_wp2
    all_goals(try go_wp2)
    all_goals(refine bodyPost_ret (v:= .agg #[.int .i64 (dt s 0 false).kind,.int .i64 (dt s 0 false).n]) (by simp [results,Tryz.results218,go_sem,dt, *]) rfl ?_)
    all_goals exact⟨rfl,by repeat(first|(with_reducible exact eo _)|(with_reducible assumption)|(with_reducible refine Below.setCell ?_ (by first|omega|(simp;done)|(simp;omega)) _)|(with_reducible refine bS ?_ _)|(with_reducible refine Below.drew ?_)|(with_reducible refine bu ?_ (by with_reducible assumption))|(with_reducible refine bu ?_ (du _ _)))⟩
   ·go_enter Tryz.func218,Tryz.ntmps218
    go_wp2
    go_region
    all_goals go_wp2
    all_goals(try go_wp2)
    all_goals(refine bodyPost_ret (v:= .agg #[.int .i64 (dt s 0 false).kind,.int .i64 (dt s 0 false).n]) (by simp [results,Tryz.results218,go_sem,dt, *]) rfl ?_)
    all_goals exact⟨rfl,by repeat(first|(with_reducible exact eo _)|(with_reducible assumption)|(with_reducible refine Below.setCell ?_ (by first|omega|(simp;done)|(simp;omega)) _)|(with_reducible refine bS ?_ _)|(with_reducible refine Below.drew ?_)|(with_reducible refine bu ?_ (by with_reducible assumption))|(with_reducible refine bu ?_ (du _ _)))⟩
  ·by_cases hk:s.fin.kind=0
   ·go_enter Tryz.func218,Tryz.ntmps218
    go_wp2
    go_region
    all_goals go_wp2
    all_goals(try go_wp2)
    all_goals(refine bodyPost_ret (v:= .agg #[.int .i64 (dt s 0 true).kind,.int .i64 (dt s 0 true).n]) (by simp [results,Tryz.results218,go_sem,dt, *]) rfl ?_)
    all_goals exact⟨rfl,by repeat(first|(with_reducible exact eo _)|(with_reducible assumption)|(with_reducible refine Below.setCell ?_ (by first|omega|(simp;done)|(simp;omega)) _)|(with_reducible refine bS ?_ _)|(with_reducible refine Below.drew ?_)|(with_reducible refine bu ?_ (by with_reducible assumption))|(with_reducible refine bu ?_ (du _ _)))⟩
   ·go_enter Tryz.func218,Tryz.ntmps218
    go_wp2
    go_region
    all_goals go_wp2
    all_goals(try go_wp2)
    all_goals(refine bodyPost_ret (v:= .agg #[.int .i64 (dt s 0 true).kind,.int .i64 (dt s 0 true).n]) (by simp [results,Tryz.results218,go_sem,dt, *]) rfl ?_)
    all_goals exact⟨rfl,by repeat(first|(with_reducible exact eo _)|(with_reducible assumption)|(with_reducible refine Below.setCell ?_ (by first|omega|(simp;done)|(simp;omega)) _)|(with_reducible refine bS ?_ _)|(with_reducible refine Below.drew ?_)|(with_reducible refine bu ?_ (by with_reducible assumption))|(with_reducible refine bu ?_ (du _ _)))⟩
 by_cases h2:sd=2
 ·subst h2
  cases rtl
  ·by_cases hk:s.fin.kind=0
   ·go_enter Tryz.func218,Tryz.ntmps218
    go_wp2
    go_region
    all_goals go_wp2
    all_goals(try go_wp2)
    all_goals(refine bodyPost_ret (v:= .agg #[.int .i64 (dt s 2 false).kind,.int .i64 (dt s 2 false).n]) (by simp [results,Tryz.results218,go_sem,dt, *]) rfl ?_)
    all_goals exact⟨rfl,by repeat(first|(with_reducible exact eo _)|(with_reducible assumption)|(with_reducible refine Below.setCell ?_ (by first|omega|(simp;done)|(simp;omega)) _)|(with_reducible refine bS ?_ _)|(with_reducible refine Below.drew ?_)|(with_reducible refine bu ?_ (by with_reducible assumption))|(with_reducible refine bu ?_ (du _ _)))⟩
   ·go_enter Tryz.func218,Tryz.ntmps218
    go_wp2
    go_region
    all_goals go_wp2
    all_goals(try go_wp2)
    all_goals(refine bodyPost_ret (v:= .agg #[.int .i64 (dt s 2 false).kind,.int .i64 (dt s 2 false).n]) (by simp [results,Tryz.results218,go_sem,dt, *]) rfl ?_)
    all_goals exact⟨rfl,by repeat(first|(with_reducible exact eo _)|(with_reducible assumption)|(with_reducible refine Below.setCell ?_ (by first|omega|(simp;done)|(simp;omega)) _)|(with_reducible refine bS ?_ _)|(with_reducible refine Below.drew ?_)|(with_reducible refine bu ?_ (by with_reducible assumption))|(with_reducible refine bu ?_ (du _ _)))⟩
  ·by_cases hk:s.start.kind=0
   ·go_enter Tryz.func218,Tryz.ntmps218
    go_wp2
    go_region
    all_goals go_wp2
    all_goals(try go_wp2)
    all_goals(refine bodyPost_ret (v:= .agg #[.int .i64 (dt s 2 true).kind,.int .i64 (dt s 2 true).n]) (by simp [results,Tryz.results218,go_sem,dt, *]) rfl ?_)
    all_goals exact⟨rfl,by repeat(first|(with_reducible exact eo _)|(with_reducible assumption)|(with_reducible refine Below.setCell ?_ (by first|omega|(simp;done)|(simp;omega)) _)|(with_reducible refine bS ?_ _)|(with_reducible refine Below.drew ?_)|(with_reducible refine bu ?_ (by with_reducible assumption))|(with_reducible refine bu ?_ (du _ _)))⟩
   ·go_enter Tryz.func218,Tryz.ntmps218
    go_wp2
    go_region
    all_goals go_wp2
    all_goals(try go_wp2)
    all_goals(refine bodyPost_ret (v:= .agg #[.int .i64 (dt s 2 true).kind,.int .i64 (dt s 2 true).n]) (by simp [results,Tryz.results218,go_sem,dt, *]) rfl ?_)
    all_goals exact⟨rfl,by repeat(first|(with_reducible exact eo _)|(with_reducible assumption)|(with_reducible refine Below.setCell ?_ (by first|omega|(simp;done)|(simp;omega)) _)|(with_reducible refine bS ?_ _)|(with_reducible refine Below.drew ?_)|(with_reducible refine bu ?_ (by with_reducible assumption))|(with_reducible refine bu ?_ (du _ _)))⟩
 have g1:(sd==1)=false:=by simpa using h1
 have g3:(sd==3)=false:=by simpa using h3
 have g0:(sd==0)=false:=by simpa using h0
 have g2:(sd==2)=false:=by simpa using h2
 cases rtl
 ·go_enter Tryz.func218,Tryz.ntmps218
  go_wp2
  go_region
  all_goals go_wp2
  all_goals(try go_wp2)
  all_goals(refine bodyPost_ret (v:= .agg #[.int .i64 (dt s sd false).kind,.int .i64 (dt s sd false).n]) (by simp [results,Tryz.results218,go_sem,dt, *]) rfl ?_)
  all_goals exact⟨rfl,by repeat(first|(with_reducible exact eo _)|(with_reducible assumption)|(with_reducible refine Below.setCell ?_ (by first|omega|(simp;done)|(simp;omega)) _)|(with_reducible refine bS ?_ _)|(with_reducible refine Below.drew ?_)|(with_reducible refine bu ?_ (by with_reducible assumption))|(with_reducible refine bu ?_ (du _ _)))⟩
 ·go_enter Tryz.func218,Tryz.ntmps218
  go_wp2
  go_region
  all_goals go_wp2
  all_goals(try go_wp2)
  all_goals(refine bodyPost_ret (v:= .agg #[.int .i64 (dt s sd true).kind,.int .i64 (dt s sd true).n]) (by simp [results,Tryz.results218,go_sem,dt, *]) rfl ?_)
  all_goals exact⟨rfl,by repeat(first|(with_reducible exact eo _)|(with_reducible assumption)|(with_reducible refine Below.setCell ?_ (by first|omega|(simp;done)|(simp;omega)) _)|(with_reducible refine bS ?_ _)|(with_reducible refine Below.drew ?_)|(with_reducible refine bu ?_ (by with_reducible assumption))|(with_reducible refine bu ?_ (du _ _)))⟩
end Go.Proofs.YtdnnffbbhijmkaaGreat
namespace Go.Proofs.YtdnnffbbhijmkaaGreat
open Go.ChangeShapes Go.WideShapes Go.ChangeAt Go.RowKit Am Go.Proofs.Tryz
set_option maxRecDepth 100000
theorem xY{F:Nat→Prop}{w:World}{a:Array Value}{u:Value}(h:RT F w [] [] (.agg (lc a)) u):u= .agg a:=by
 obtain⟨vs,rfl,hl,hc⟩:=h
 have hl':vs.length=a.toList.length:=by rw [hl];simp [lc]
 have:vs=a.toList:=by
  refine List.ext_getElem? fun i=> ?_
  by_cases hi:i<a.toList.length
  ·have h1:=zqc hi
   obtain⟨u,hu,_,hr⟩:=hc i (.imm a.toList[i]) (by simp [lc,h1])
   rw [hu,h1]
   exact congrArg some hr
  ·rw [zqz (by omega),zqz (by omega)]
 rw [this]
theorem Ah{F:Nat→Prop}{w:World}:∀(j:Nat)(x:AT)(u:Value),([]:List AT)[j]? =some x→RT F w [] [] x u→([]:List Value)[j]? =some u:=fun j x u h=>by simp at h
theorem nZ{F:Nat→Prop}{w:World}{x:AT}{v:Value}{xs:List AT}{vs:List Value}(h1:∀u,RT F w [] [] x u→u=v)(h2:∀(j:Nat)(x:AT)(u:Value),xs[j]? =some x→RT F w [] [] x u→vs[j]? =some u):
  ∀(j:Nat)(y:AT)(u:Value),(x::xs)[j]? =some y→RT F w [] [] y u→(v::vs)[j]? =some u:=fun j y u h hr=>by
 cases j with
 |zero=>simp only [zqw,zqy]at h;subst h;rw [h1 u hr];rfl
 |succ j=>exact h2 j y u (by simpa using h) hr
theorem m8(s:bd)(sd:Int)(rtl:Bool):PC0 218 [.agg (lc (bd.c s)),ai sd,abl rtl] (.t (agV (pk s sd rtl))):=
 sU (us:=[.agg (bd.c s),.int .i64 sd,.bool rtl]) (v:= .agg #[.int .i64 (pk s sd rtl).kind,.int .i64 (pk s sd rtl).n]) (by kernel_rfl) rfl
  (fun F w=>nZ (fun u h=>xY h) (nZ (fun u h=>h) (nZ (fun u h=>h) Ah)))
  (fun F w=>⟨[.int .i64 (pk s sd rtl).kind,.int .i64 (pk s sd rtl).n],rfl,rfl,fun j c hj=>by
   match j,hj with
   |0,hj=>cases hj;exact⟨_,rfl,rfl,rfl⟩
   |1,hj=>cases hj;exact⟨_,rfl,rfl,rfl⟩⟩)
  (fun w=>tJ s sd rtl w)
end Go.Proofs.YtdnnffbbhijmkaaGreat
namespace Go.Proofs.YtdnnffbbhijmkaaGreat
open Go.ChangeShapes Go.WideShapes Go.ChangeAt Go.RowKit Am Go.Proofs.Tryz
inductive Sh where
 |i
 |b
 |s (ks:List Sh)
mutual
def Dt:Sh→AC→Prop
 | .i,c=>∃n,R64 n∧c= .imm (.int .i64 n)
 | .b,c=>∃x,c= .imm (.bool x)
 | .s ks,c=>∃xs:List (List AC),c= .view xs∧xs.length≤9223372036854775807∧∀x∈xs,DtL ks x
def DtL:List Sh→List AC→Prop
 | [],[]=>True
 |k::ks,c::cs=>Dt k c∧DtL ks cs
 |_,_=>False
end
theorem DtL.len:∀{ks:List Sh}{xs:List AC},DtL ks xs→xs.length=ks.length
 | [],[],_=>rfl
 | [],_::_,h=>by unfold DtL at h;exact h.elim
 |_::_,[],h=>by unfold DtL at h;exact h.elim
 |_::ks,_::xs,h=>by unfold DtL at h;simp [DtL.len h.2]
theorem DtL.mk:∀{ks:List Sh}{xs:List AC},xs.length=ks.length→(∀(i:Nat)(k:Sh)(c:AC),ks[i]? =some k→xs[i]? =some c→Dt k c)→DtL ks xs
 | [],[],_,_=>by unfold DtL;trivial
 | [],_::_,h,_=>by simp at h
 |_::_,[],h,_=>by simp at h
 |_::ks,_::xs,h,hp=>by
  unfold DtL
  exact⟨hp 0 _ _ rfl rfl,DtL.mk (by simpa using h) fun i k c h1 h2=>hp (i+1) k c (by simpa using h1) (by simpa using h2)⟩
def shC(P:Program)(f:TypeId→Option (List Sh))(u:TypeId):Option Sh:=
 match P.underlying u with
 |some (.int .i64)=>some .i
 |some .bool=>some .b
 |some (.slice e)=>if e<P.types.size then(match f e with|some (k::ks)=>if P.cellsOf e=(k::ks).length then some (.s (k::ks))else none|_=>none)else none
 |_=>none
def shL(P:Program):Nat→TypeId→Option (List Sh)
 |0,_=>none
 |n+1,t=>match wl P 5 t with|none=>none|some ts=>ts.mapM (shC P (shL P n))
theorem zy{α β:Type}{f:α→Option β}:∀{l:List α}{r:List β},l.mapM f=some r→r.length=l.length∧∀(i:Nat)(b:β),r[i]? =some b→∃a,l[i]? =some a∧f a=some b
 | [],r,h=>by simp only [List.mapM_nil,Option.pure_def,zqy]at h;subst h;exact⟨rfl,fun i b hb=>by simp at hb⟩
 |a::l,r,h=>by
  simp only [List.mapM_cons,Option.bind_eq_bind,Option.bind_eq_some_iff,Option.pure_def,zqy]at h
  obtain⟨b,h1,r',h2,rfl⟩:=h
  obtain⟨h3,h4⟩:=zy h2
  refine⟨by simp [h3],fun i b' hb=> ?_⟩
  cases i with
  |zero=>simp at hb;subst hb;exact⟨a,rfl,h1⟩
  |succ i=>exact h4 i b' (by simpa using hb)
section
variable {H : Type} {enc : TypeId × Value → H} {P : Program} {w : World} {mg : Bool} {base : Nat} {spare : Nat → Bool}
theorem yh(hl:laidOutB P=true):∀(n:Nat)(t:TypeId)(ks:List Sh)(fuel:Nat)(cs:List Value)(x:DataW H×List MemPlace),t<P.types.size→shL P n t=some ks→DataW.trod enc P w base spare mg fuel t cs=some x→
  ∃xs:List AC,DtL ks xs∧xs.length=cs.length∧∀(j:Nat)(c:AC),xs[j]? =some c→∃u,cs[j]? =some u∧one u=true∧RP (fun b=>b<w.heap.size) w c u:=by
 intro n
 induction n with
 |zero=>intro t ks fuel cs x _ h;simp [shL]at h
 |succ n ih=>
  intro t ks fuel cs x hlt hsh htr
  unfold shL at hsh
  split at hsh
  ·cases hsh
  ·rename_i ts hts
   obtain⟨hlen,hat⟩:=zy hsh
   obtain⟨hcl,hca⟩:=vg hl 5 t ts fuel cs x hlt hts htr
   have key:∀i,i<ks.length→∃c:AC,(∀k,ks[i]? =some k→Dt k c)∧∃u,cs[i]? =some u∧one u=true∧RP (fun b=>b<w.heap.size) w c u:=by
    intro i hi
    have hki:=zqc hi
    obtain⟨u,hu,hs⟩:=hat i _ hki
    obtain⟨v,f',y,hv,hy⟩:=hca i u hu
    suffices∃c:AC,Dt ks[i] c∧one v=true∧RP (fun b=>b<w.heap.size) w c v by
     obtain⟨c,h1,h2,h3⟩:=this
     exact⟨c,fun k hk=>by rw [hki]at hk;cases hk;exact h1,v,hv,h2,h3⟩
    generalize ks[i]=k at hs
    unfold shC at hs
    split at hs
    ·rename_i hun
     cases hs
     obtain⟨m,h1,_,hw⟩:=DataW.trod_int hun hy
     simp only [List.cons.injEq,and_true]at h1
     subst h1
     exact⟨.J m,by unfold Dt;exact⟨m,mP hw,rfl⟩,rfl,by unfold RP;rfl⟩
    ·rename_i hun
     cases hs
     obtain⟨m,h1,_⟩:=DataW.trod_bool hun hy
     simp only [List.cons.injEq,and_true]at h1
     subst h1
     exact⟨.B m,by unfold Dt;exact⟨m,rfl⟩,rfl,by unfold RP;rfl⟩
    ·rename_i e hun
     split at hs
     ·rename_i he
      split at hs
      ·rename_i k0 ks0 hf0
       split at hs
       ·rename_i hck
        cases hs
        rcases Go.Deep.open_slice hun hy with⟨hcs,_⟩|⟨a,len,cap,m,n',D,Pl,hcs,hba,hlc,hm,hmm,hx,hel⟩
        ·simp only [List.cons.injEq,and_true]at hcs
         subst hcs
         refine⟨.view [],by unfold Dt;exact⟨[],rfl,by simp,by simp⟩,rfl,?_⟩
         unfold RP
         exact⟨none,0,rfl,Nat.le_refl _,by decide,.inl rfl⟩
        ·simp only [List.cons.injEq,and_true]at hcs
         subst hcs
         have hk0:0<P.cellsOf e:=by rw [hck];simp
         have hlm:len≤m:=by rw [hmm];split<;>omega
         have el:∀i,i<len→∃xs:List AC,DtL (k0::ks0) xs∧a.spot=none∧RPL (fun b=>b<w.heap.size) w a.block (a.off+i*P.cellsOf e) xs∧a.block<w.heap.size:=by
          intro i hi'
          obtain⟨cs',hc,htr'⟩:=hel i (by omega)
          obtain⟨_,hcl',hat'⟩:=World.cells?_some hc
          obtain⟨xs,h1,h2,h3⟩:=ih e _ n' cs' _ he hf0 htr'
          have hsp:a.spot=none:=by
           obtain⟨cs0,hc0',_⟩:=hel 0 (by omega)
           obtain⟨_,hl0,hat0⟩:=World.cells?_some hc0'
           have h4:=hat0 0 hk0
           have:∃u,cs0[0]? =some u:=⟨cs0[0]'(by omega),zqc (by omega)⟩
           obtain⟨u1,hu1⟩:=this
           rw [hu1]at h4
           have h5:=uB h4
           simpa [Addr.add]using h5
          have hcell:∀(j:Nat)(c:AC),xs[j]? =some c→∃u,w.cell? ⟨a.block,a.off+i*P.cellsOf e+j,none⟩=some u∧one u=true∧RP (fun b=>b<w.heap.size) w c u:=fun j c hj=>by
           obtain⟨u,g1,g2,g3⟩:=h3 j c hj
           have hjl:j<P.cellsOf e:=by rw [←hcl'];exact(List.getElem?_eq_some_iff.1 g1).1
           have h6:=hat' j hjl
           rw [g1]at h6
           exact⟨u,by rw [←BX a hsp];exact h6,g2,g3⟩
          refine⟨xs,h1,hsp,RPL.mk hcell,?_⟩
          have hx0:∃c,xs[0]? =some c:=⟨xs[0]'(by rw [h1.len];simp),zqc _⟩
          obtain⟨c,hc0⟩:=hx0
          obtain⟨u,g1,_⟩:=hcell 0 c hc0
          have hbl:=World.block_lt_of_cell? w _ g1
          exact hbl
         obtain⟨f,hf⟩:∃f:Nat→List AC,∀i,i<len→DtL (k0::ks0) (f i)∧a.spot=none∧RPL (fun b=>b<w.heap.size) w a.block (a.off+i*P.cellsOf e) (f i)∧a.block<w.heap.size:=Go.Deep.choose_lt el
         refine⟨.view ((List.range len).map f),by
          unfold Dt
          refine⟨_,rfl,by simp only [zql,List.length_range];exact Nat.le_trans hlc (Nat.le_trans hm (by decide)),fun x hx=> ?_⟩
          simp only [List.mem_map,List.mem_range]at hx
          obtain⟨i,hi,rfl⟩:=hx
          exact(hf i hi).1,rfl,?_⟩
         unfold RP
         refine⟨some a,cap,by simp,by simpa using hlc,hm,?_⟩
         by_cases h0:len=0
         ·left;subst h0;rfl
         ·right
          obtain⟨_,hsp,_,hbl⟩:=hf 0 (by omega)
          refine⟨a.block,a.off,P.cellsOf e,by obtain⟨b,o,s⟩:=a;simp only at hsp;subst hsp;rfl,hbl,RPE.mk fun i y hy=> ?_⟩
          simp only [zqi,zqj]at hy
          obtain⟨i',hi',rfl⟩:=hy
          have hil:i<len:=by have:=(List.getElem?_eq_some_iff.1 hi').1;simpa using this
          rw [List.getElem?_range hil]at hi'
          cases hi'
          obtain⟨g1,_,g3,_⟩:=hf i hil
          exact⟨by rw [g1.len,hck],g3⟩
       ·cases hs
      ·cases hs
     ·cases hs
    ·cases hs
   haveI:Inhabited AC:=⟨.dead⟩
   obtain⟨f,hf⟩:∃f:Nat→AC,∀i,i<ks.length→(∀k,ks[i]? =some k→Dt k (f i))∧∃u,cs[i]? =some u∧one u=true∧RP (fun b=>b<w.heap.size) w (f i) u:=Go.Deep.choose_lt key
   refine⟨(List.range ks.length).map f,DtL.mk (by simp) fun i k c hk hc=> ?_,by simp [hcl,hlen],fun j c hj=> ?_⟩
   ·simp only [zqi,zqj]at hc
    obtain⟨i',hi',rfl⟩:=hc
    have hil:i<ks.length:=(List.getElem?_eq_some_iff.1 hk).1
    rw [List.getElem?_range hil]at hi'
    cases hi'
    exact(hf i hil).1 k hk
   ·simp only [zqi,zqj]at hj
    obtain⟨i',hi',rfl⟩:=hj
    have hil:j<ks.length:=by have:=(List.getElem?_eq_some_iff.1 hi').1;simpa using this
    rw [List.getElem?_range hil]at hi'
    cases hi'
    exact(hf j hil).2
theorem vY{r:Reach}{b0:Nat}{t:TypeId}{fs:Array Field}{v:Value}{d:DataW H}{p:List MemPlace}(hl:laidOutB P=true)(n:Nat)(ks:List Sh)(hlt:t<P.types.size)(hs:P.underlying t=some (.struct fs))(hsh:shL P n t=some ks)
  (hv:Value.okWide P w r b0 t v) (h:DataW.Trod enc P w base spare mg t v d p):∃xs,DtL ks xs∧RT (fun b=>b<w.heap.size) w [] [] (.agg xs) v:=by
 obtain⟨cs,rfl,hsz⟩:=okWide_struct hs hv
 obtain⟨fuel,hf⟩:=h
 obtain⟨xs,h1,h2,h3⟩:=yh hl n t ks fuel _ _ hlt hsh hf
 refine⟨xs,h1,cs.toList,rfl,h2.symm,fun j c hj=> ?_⟩
 obtain⟨u,g1,g2,g3⟩:=h3 j c hj
 have hc:Dt (ks[j]'(by rw [←h1.len];exact(List.getElem?_eq_some_iff.1 hj).1)) c∨True:= .inr trivial
 refine⟨u,g1,g2,?_⟩
 cases c with
 |imm v=>unfold RP at g3;exact g3
 |view ys=>exact g3
 |dead=>trivial
 |own r=>unfold RP at g3;exact g3.elim
 |sub r lo k=>unfold RP at g3;exact g3.elim
 |ptr r i o=>unfold RP at g3;exact g3.elim
 |eptr cs o=>unfold RP at g3;exact g3.elim
 |clo f rs=>unfold RP at g3;exact g3.elim
 |fv bs xs=>unfold RP at g3;exact g3.elim
 |old p xs=>unfold RP at g3;exact g3.elim
end
end Go.Proofs.YtdnnffbbhijmkaaGreat
namespace Go.Proofs.YtdnnffbbhijmkaaGreat
open Go.ChangeShapes Go.WideShapes Go.ChangeAt Go.RowKit Am Go.Proofs.Tryz
set_option maxRecDepth 100000
theorem DV{P:Program}{f:FuncId}{args:List AT}{ab0:AB}{q:AB→Prop}(hc:dg P f args fun res rows=>∃ab,res= .o 0∧rows=[ab]∧q ab∧ab=ab0):dg P f args fun res rows=>res= .o 0∧rows=[ab0]:=
 Con.mono hc fun res h'⟨rows,h1,ab,h2,h3,_,h4⟩=>⟨rows,h1,h2,by rw [h3,h4]⟩
theorem aI{α:Type}(c:α→Array Value)(xs:List α):bQ (vw c xs)=true:=by
 simp only [bQ,vw,List.all_map,zqf]
 intro x _
 simp [lc]
def Bl(gap z:Int):Int:=if 0<z then gap*(z-1)else 0
def yi(x:aj):Int:=x.before+x.behind
def gU(xs:List aj)(ys:List Int)(gap:Int):Int:=(xs.map yi).sum+Bl gap xs.length+(ys.map id).sum
theorem zV{gap z:Int}(hz:0≤z):Bl gap (z+1)=Bl gap z+if 0<z then gap else 0:=by
 unfold Bl
 rw [if_pos (by omega)]
 by_cases h:0<z
 ·rw [if_pos h,if_pos h,show z+1-1=(z-1)+1 by omega,Int.mul_add,Int.mul_one]
 ·rw [if_neg h,if_neg h,show z+1-1=0 by omega,Int.mul_zero];rfl
theorem fV(xs:List aj)(ys:List Int)(gap:Int)(hx:xs.length≤1048576)(hy:ys.length≤1048576):PC0 338 [.c (.view (vw aj.c xs)),.c (.view (vw ao ys)),ai gap] (.t (ai (wrap64 (gU xs ys gap)))):=by
 obtain⟨V,hV⟩:=nmE (vw aj.c xs)
 obtain⟨W,hW⟩:=nmE (vw ao ys)
 have hVl:V.length=xs.length:=by rw [hV,af]
 have hWl:W.length=ys.length:=by rw [hW,af]
 rw [←hV,←hW]
 refine ae (aN f338) aB func338 fun g F hg hF=> ?_
 cbv
 refine bP hg aB (by kernel_rfl) (fun s:Int×Int=>[(0,.v V),(1,.v W),(2,.t (ai gap)),(7,.t (ai s.2)),(8,.t (ai s.1))]) (fun _=>[]) (fun s=>0≤s.1∧s.1≤bg V∧s.2=wrap64 (vR yi xs s.1.toNat+Bl gap s.1)) (fun s=>V.length-s.1.toNat)
  (0,0) [] ⟨Int.le_refl 0,by have:=aD V;simp only;omega,by rw [show((0,0):Int×Int).1.toNat=0 from rfl,iU];exact(ay 0 (by omega)).symm⟩ (wk0 ⟨rfl,rfl,rfl,rfl,rfl,trivial⟩) (fun s B hs hB=> ?_)
 obtain⟨z,a⟩:=s
 obtain⟨h0,h1,h2⟩:=hs
 simp only at h0 h1 h2
 cbv
 cases hc:g .q .lss z (g .ln V)
 ·rw [bk hg,bK hg,zqo]at hc
  cbv
  have ha:a=wrap64 ((xs.map yi).sum+Bl gap xs.length):=by rw [h2,lh yi (by have:=aD V;omega),show z=(xs.length:Int) by have:=aD V;omega]
  refine bP hg aB (by kernel_rfl) (fun s:Int×Int=>[(1,.v W),(7,.t (ai s.2)),(9,.t (ai s.1))]) (fun _=>[]) (fun s=>0≤s.1∧s.1≤bg W∧s.2=wrap64 ((xs.map yi).sum+Bl gap xs.length+vR id ys s.1.toNat)) (fun s=>W.length-s.1.toNat)
   (0,a) [] ⟨Int.le_refl 0,by have:=aD W;simp only;omega,by rw [show((0,a):Int×Int).1.toNat=0 from rfl,iU,Int.add_zero];exact ha⟩ (wk0 ⟨rfl,rfl,rfl,trivial⟩) (fun s B2 hs hB2=> ?_)
  obtain⟨y,b⟩:=s
  obtain⟨k0,k1,k2⟩:=hs
  simp only at k0 k1 k2
  cbv
  cases hd:g .q .lss y (g .ln W)
  ·rw [bk hg,bK hg,zqo]at hd
   cbv
   exact aY hF (by rw [k2,lh id (by have:=aD W;omega)];rfl)
  ·rw [bk hg,bK hg,zqp]at hd
   cbv
   have hle:=aD W
   obtain⟨x,hxx⟩:=qv (xs:=ys) k0 (by omega)
   have hyy:W[y.toNat]? =some (lc (ao x)):=by rw [hW];exact bh hxx
   refine goX hg _ k0 hyy rfl ?_
   cbv
   have hle:=aD W
   have e1:g .w .add .i64 y 1=y+1:=by rw [aK hg,ay _ (by omega)]
   rw [e1,aK hg]
   refine gM hB2 (y+1,_) [] (wk0 ⟨rfl,rfl,rfl,trivial⟩) ⟨by simp only;omega,by simp only;omega,?_⟩ (by show W.length-(y+1).toNat<W.length-y.toNat;omega)
   show wrap64 (b+x)=_
   rw [show(y+1).toNat=y.toNat+1 by omega,iY id hxx,k2,mi,Int.add_assoc];rfl
 ·rw [bk hg,bK hg,zqp]at hc
  cbv
  have hle:=aD V
  obtain⟨x,hxx⟩:=qv (xs:=xs) h0 (by omega)
  have hyy:V[z.toNat]? =some (lc (aj.c x)):=by rw [hV];exact bh hxx
  have hs2:=iY yi hxx
  obtain⟨a0,a1,a2,a3,a4,a5,a6,a7,a8⟩:=x
  refine goX hg _ h0 hyy rfl ?_
  cbv
  refine goX hg _ h0 hyy rfl ?_
  cbv
  have hle:=aD V
  have e1:g .w .add .i64 z 1=z+1:=by rw [aK hg,ay _ (by omega)]
  have hg2:=zV (gap:=gap) h0
  cases hp:g .q .gtr z 0
  ·rw [cu hg,zqo]at hp
   rw [if_neg (by omega),Int.add_zero]at hg2
   cbv
   rw [e1,aK hg,aK hg]
   refine gM hB (z+1,_) [] (wk0 ⟨rfl,rfl,rfl,rfl,rfl,trivial⟩) ⟨by simp only;omega,by simp only;omega,?_⟩ (by have:=aD V;show V.length-(z+1).toNat<V.length-z.toNat;omega)
   show wrap64 (wrap64 (a+a5)+a6)=_
   rw [show(z+1).toNat=z.toNat+1 by omega,hs2,hg2,h2]
   simp only [mi]
   exact congrArg wrap64 (by simp only [yi];omega)
  ·rw [cu hg,zqp]at hp
   rw [if_pos (by omega)]at hg2
   cbv
   rw [e1,aK hg,aK hg,aK hg]
   refine gM hB (z+1,_) [] (wk0 ⟨rfl,rfl,rfl,rfl,rfl,trivial⟩) ⟨by simp only;omega,by simp only;omega,?_⟩ (by have:=aD V;show V.length-(z+1).toNat<V.length-z.toNat;omega)
   show wrap64 (wrap64 (wrap64 (a+a5)+a6)+gap)=_
   rw [show(z+1).toNat=z.toNat+1 by omega,hs2,hg2,h2]
   simp only [mi]
   exact congrArg wrap64 (by simp only [yi];omega)
theorem eV(xs:List aj)(ys:List Int)(gap:Int)(hx:xs.length≤1048576)(hy:ys.length≤1048576):PC0 252 [.c (.view (vw aj.c xs)),.c (.view (vw ao ys)),ai gap] (.t (ai (wrap64 (gU xs ys gap)))):=by
 obtain⟨V,hV⟩:=nmE (vw aj.c xs)
 obtain⟨W,hW⟩:=nmE (vw ao ys)
 have hVl:V.length=xs.length:=by rw [hV,af]
 have hWl:W.length=ys.length:=by rw [hW,af]
 rw [←hV,←hW]
 refine ae (aN f252) aB func252 fun g F hg hF=> ?_
 cbv
 refine bP hg aB (by kernel_rfl) (fun s:Int×Int=>[(0,.v V),(2,.t (ai gap)),(7,.t (ai s.2)),(12,.v W),(13,.t (ai (g .ln W))),(14,.t (ai s.1))]) (fun _=>[]) (fun s=>0≤s.1∧s.1≤bg W∧s.2=wrap64 (vR id ys s.1.toNat)) (fun s=>W.length-s.1.toNat)
  (0,0) [] ⟨Int.le_refl 0,by have:=aD W;simp only;omega,by rw [show((0,0):Int×Int).1.toNat=0 from rfl,iU];exact(ay 0 (by omega)).symm⟩ (wk0 ⟨rfl,rfl,rfl,rfl,rfl,rfl,trivial⟩) (fun s B hs hB=> ?_)
 obtain⟨z,a⟩:=s
 obtain⟨h0,h1,h2⟩:=hs
 simp only at h0 h1 h2
 cbv
 cases hc:g .q .lss z (g .ln W)
 ·rw [bk hg,bK hg,zqo]at hc
  cbv
  have ha:a=wrap64 ((ys.map id).sum):=by rw [h2,lh id (by have:=aD W;omega)]
  refine bP hg aB (by kernel_rfl) (fun s:Int×Int=>[(0,.v V),(2,.t (ai gap)),(7,.t (ai s.2)),(22,.v V),(23,.t (ai (g .ln V))),(24,.t (ai s.1))]) (fun _=>[]) (fun s=>0≤s.1∧s.1≤bg V∧s.2=wrap64 ((ys.map id).sum+vR yi xs s.1.toNat)) (fun s=>V.length-s.1.toNat)
   (0,a) [] ⟨Int.le_refl 0,by have:=aD V;simp only;omega,by rw [show((0,a):Int×Int).1.toNat=0 from rfl,iU,Int.add_zero];exact ha⟩ (wk0 ⟨rfl,rfl,rfl,rfl,rfl,rfl,trivial⟩) (fun s B2 hs hB2=> ?_)
  obtain⟨y,b⟩:=s
  obtain⟨k0,k1,k2⟩:=hs
  simp only at k0 k1 k2
  cbv
  cases hd:g .q .lss y (g .ln V)
  ·rw [bk hg,bK hg,zqo]at hd
   cbv
   have kb:b=wrap64 ((ys.map id).sum+(xs.map yi).sum):=by rw [k2,lh yi (by have:=aD V;omega)]
   have hle:=aD V
   cases he:g .q .gtr (g .ln V) 0
   ·rw [cu hg,bK hg,zqo]at he
    cbv
    have hle:=aD V
    exact aY hF (by rw [kb];unfold gU Bl;rw [if_neg (by omega)];exact congrArg wrap64 (by omega))
   ·rw [cu hg,bK hg,zqp]at he
    cbv
    have hle:=aD V
    exact aY hF (by
     rw [aK hg,fP hg,de hg,bK hg,ay (bg V-1) (by omega),kb,mi,rF]
     unfold gU Bl
     rw [if_pos (by omega),show bg V=(xs.length:Int) by omega]
     exact congrArg wrap64 (by omega))
  ·rw [bk hg,bK hg,zqp]at hd
   cbv
   have hle:=aD V
   obtain⟨x,hxx⟩:=qv (xs:=xs) k0 (by omega)
   have hyy:V[y.toNat]? =some (lc (aj.c x)):=by rw [hV];exact bh hxx
   have hs2:=iY yi hxx
   obtain⟨a0,a1,a2,a3,a4,a5,a6,a7,a8⟩:=x
   refine goX hg _ k0 hyy rfl ?_
   cbv
   have hle:=aD V
   have e1:g .w .add .i64 y 1=y+1:=by rw [aK hg,ay _ (by omega)]
   rw [e1,aK hg,aK hg]
   refine gM hB2 (y+1,_) [] (wkS [] (by decide) trivial ⟨rfl,rfl,rfl,rfl,rfl,rfl,trivial⟩) ⟨by simp only;omega,by simp only;omega,?_⟩ (by show V.length-(y+1).toNat<V.length-y.toNat;omega)
   show wrap64 (b+wrap64 (a5+a6))=_
   rw [show(y+1).toNat=y.toNat+1 by omega,hs2,k2,mi,rF]
   exact congrArg wrap64 (by simp only [yi];omega)
 ·rw [bk hg,bK hg,zqp]at hc
  cbv
  have hle:=aD W
  obtain⟨x,hxx⟩:=qv (xs:=ys) h0 (by omega)
  have hyy:W[z.toNat]? =some (lc (ao x)):=by rw [hW];exact bh hxx
  refine goX hg _ h0 hyy rfl ?_
  cbv
  have hle:=aD W
  have e1:g .w .add .i64 z 1=z+1:=by rw [aK hg,ay _ (by omega)]
  rw [e1,aK hg]
  refine gM hB (z+1,_) [] (wk0 ⟨rfl,rfl,rfl,rfl,rfl,rfl,trivial⟩) ⟨by simp only;omega,by simp only;omega,?_⟩ (by show W.length-(z+1).toNat<W.length-z.toNat;omega)
  show wrap64 (a+x)=_
  rw [show(z+1).toNat=z.toNat+1 by omega,iY id hxx,h2,mi];rfl
end Go.Proofs.YtdnnffbbhijmkaaGreat
