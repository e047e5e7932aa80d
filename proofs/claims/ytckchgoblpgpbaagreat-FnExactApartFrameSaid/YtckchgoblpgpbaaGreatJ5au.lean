/- Structs that hold slices, as data. -/
import Derived.Test.YtckchgoblpgpbaaGreatJ5at
set_option linter.unusedVariables false
set_option linter.unusedSimpArgs false
namespace Go.Proofs.YtckchgoblpgpbaaGreat
open Go.ChangeShapes Go.WideShapes Go.ChangeAt Go.RowKit Am Go.Proofs.Tryz
inductive Sh where
 |i
 |b
 |s (ks:List Sh)
mutual
def Dt:Sh->AC->Prop
 | .i,c=>∃n,R64 n/\c= .imm (.int .i64 n)
 | .b,c=>∃x,c= .imm (.bool x)
 | .s ks,c=>∃xs:LLA,c= .view xs/\xs.length<=9223372036854775807/\∀x∈xs,DtL ks x
def DtL:List Sh->List AC->Prop
 | [],[]=>True
 |k::ks,c::cs=>Dt k c/\DtL ks cs
 |_,_=>False
end
theorem DtL.len:∀{ks:List Sh}{xs:List AC},DtL ks xs->xs.length=ks.length
 | [],[],_=>rfl
 | [],_::_,h=>by unfold DtL at h;exact h.elim
 |_::_,[],h=>by unfold DtL at h;exact h.elim
 |_::ks,_::xs,h=>by unfold DtL at h;simp [DtL.len h.2]
theorem DtL.mk:∀{ks:List Sh}{xs:List AC},xs.length=ks.length->(∀(i:Nat)(k:Sh)(c:AC),ks[i]? =some k->xs[i]? =some c->Dt k c)->DtL ks xs
 | [],[],_,_=>by unfold DtL;trivial
 | [],_::_,h,_=>by simp at h
 |_::_,[],h,_=>by simp at h
 |_::ks,_::xs,h,hp=>by
  unfold DtL
  exact⟨hp 0 _ _ rfl rfl,DtL.mk (by simpa using h) fun i k c h1 h2=>hp (i+1) k c (by simpa using h1) (by simpa using h2)⟩
def shC(P:Program)(f:TypeId->Option (List Sh))(u:TypeId):Option Sh:=
 match P.underlying u with
 |some (.int .i64)=>some .i
 |some .bool=>some .b
 |some (.slice e)=>if e<P.types.size then(match f e with|some (k::ks)=>if P.cellsOf e=(k::ks).length then some (.s (k::ks))else none|_=>none)else none
 |_=>none
def shL(P:Program):Nat->TypeId->Option (List Sh)
 |0,_=>none
 |n+1,t=>match xf P 5 t with|none=>none|some ts=>ts.mapM (shC P (shL P n))
theorem Aq{α β:Type}{f:α->Option β}:∀{l:List α}{r:List β},l.mapM f=some r->r.length=l.length/\∀(i:Nat)(b:β),r[i]? =some b->∃a,l[i]? =some a/\f a=some b
 | [],r,h=>by simp only [List.mapM_nil,Option.pure_def,zqy]at h;subst h;exact⟨rfl,fun i b hb=>by simp at hb⟩
 |a::l,r,h=>by
  simp only [List.mapM_cons,Option.bind_eq_bind,Option.bind_eq_some_iff,Option.pure_def,zqy]at h
  obtain⟨b,h1,r',h2,rfl⟩:=h
  obtain⟨h3,h4⟩:=Aq h2
  refine⟨by simp [h3],fun i b' hb=> ?_⟩
  cases i with
  |zero=>simp at hb;subst hb;exact⟨a,rfl,h1⟩
  |succ i=>exact h4 i b' (by simpa using hb)
section
variable {H:Type}{enc:TypeId × Value->H}{P:Program}{w:World}{mO:Bool}{base:Nat}{spare:Nat->Bool}
theorem y9(hl:laidOutB P=true):∀(n:Nat)(t:TypeId)(ks:List Sh)(hb:Nat)(cs:List Value)(x:DataW H×List MemPlace),t<P.types.size->shL P n t=some ks->DataW.trod enc P w base spare mO hb t cs=some x->
  ∃xs:List AC,DtL ks xs/\xs.length=cs.length/\∀(j:Nat)(c:AC),xs[j]? =some c->∃u,cs[j]? =some u/\one u=true/\RP (fun b=>b<w.heap.size) w c u:=by
 intro n
 induction n with
 |zero=>intro t ks hb cs x _ h;simp [shL]at h
 |succ n ih=>
  intro t ks hb cs x hK hn hL
  unfold shL at hn
  split at hn
  ·cases hn
  ·rename_i ts hts
   obtain⟨hz,hE⟩:=Aq hn
   obtain⟨hH,hG⟩:=wc hl 5 t ts hb cs x hK hts hL
   have hO:∀i,i<ks.length->∃c:AC,(∀k,ks[i]? =some k->Dt k c)/\∃u,cs[i]? =some u/\one u=true/\RP (fun b=>b<w.heap.size) w c u:=by
    intro i hi
    have hC:=zqc hi
    obtain⟨u,hu,hs⟩:=hE i _ hC
    obtain⟨v,f',y,hv,hy⟩:=hG i u hu
    suffices∃c:AC,Dt ks[i] c/\one v=true/\RP (fun b=>b<w.heap.size) w c v by
     obtain⟨c,h1,h2,h3⟩:=this
     exact⟨c,fun k hk=>by rw [hC]at hk;cases hk;exact h1,v,hv,h2,h3⟩
    generalize ks[i]=k at hs
    unfold shC at hs
    split at hs
    ·rename_i hun
     cases hs
     obtain⟨m,h1,_,hw⟩:=DataW.trod_int hun hy
     simp only [List.cons.injEq,and_true]at h1
     subst h1
     exact⟨.J m,by unfold Dt;exact⟨m,kT hw,rfl⟩,rfl,by unfold RP;rfl⟩
    ·rename_i hun
     cases hs
     obtain⟨m,h1,_⟩:=DataW.trod_bool hun hy
     simp only [List.cons.injEq,and_true]at h1
     subst h1
     exact⟨.B m,by unfold Dt;exact⟨m,rfl⟩,rfl,by unfold RP;rfl⟩
    ·rename_i e hun
     split at hs
     ·rename_i he
      split at hs
      ·rename_i k0 ks0 hf0
       split at hs
       ·rename_i hck
        cases hs
        rcases Go.Deep.open_slice hun hy with⟨hcs,_⟩|⟨a,len,cap,m,n',D,Pl,hcs,hba,hlc,hm,hmm,hx,hel⟩
        ·simp only [List.cons.injEq,and_true]at hcs
         subst hcs
         refine⟨.view [],by unfold Dt;exact⟨[],rfl,by simp,by simp⟩,rfl,?_⟩
         unfold RP
         exact⟨none,0,rfl,Nat.le_refl _,by decide,.inl rfl⟩
        ·simp only [List.cons.injEq,and_true]at hcs
         subst hcs
         have hJ:0<P.cellsOf e:=by rw [hck];simp
         have hQ:len<=m:=by rw [hmm];split<;>omega
         have el:∀i,i<len->∃xs:List AC,DtL (k0::ks0) xs/\a.spot=none/\RPL (fun b=>b<w.heap.size) w a.block (a.off+i*P.cellsOf e) xs/\a.block<w.heap.size:=by
          intro i ha
          obtain⟨hD,hc,hA⟩:=hel i (by omega)
          obtain⟨_,ht,ho⟩:=World.cells?_some hc
          obtain⟨xs,h1,h2,h3⟩:=ih e _ n' hD _ he hf0 hA
          have hh:a.spot=none:=by
           obtain⟨hB,hr,_⟩:=hel 0 (by omega)
           obtain⟨_,hP,hp⟩:=World.cells?_some hr
           have h4:=hp 0 hJ
           have:∃u,hB[0]? =some u:=⟨hB[0]'(by omega),zqc (by omega)⟩
           obtain⟨u1,hM⟩:=this
           rw [hM]at h4
           have h5:=ve h4
           simpa [Addr.add]using h5
          have hd:∀(j:Nat)(c:AC),xs[j]? =some c->∃u,w.cell? ⟨a.block,a.off+i*P.cellsOf e+j,none⟩=some u/\one u=true/\RP (fun b=>b<w.heap.size) w c u:=fun j c hj=>by
           obtain⟨u,g1,g2,g3⟩:=h3 j c hj
           have hI:j<P.cellsOf e:=by rw [<-ht];exact(List.getElem?_eq_some_iff.1 g1).1
           have h6:=ho j hI
           rw [g1]at h6
           exact⟨u,by rw [<-CX a hh];exact h6,g2,g3⟩
          refine⟨xs,h1,hh,RPL.mk hd,?_⟩
          have hN:∃c,xs[0]? =some c:=⟨xs[0]'(by rw [h1.len];simp),zqc _⟩
          obtain⟨c,hF⟩:=hN
          obtain⟨u,g1,_⟩:=hd 0 c hF
          have hq:=World.block_lt_of_cell? w _ g1
          exact hq
         obtain⟨f,hf⟩:∃f:Nat->List AC,∀i,i<len->DtL (k0::ks0) (f i)/\a.spot=none/\RPL (fun b=>b<w.heap.size) w a.block (a.off+i*P.cellsOf e) (f i)/\a.block<w.heap.size:=Go.Deep.choose_lt el
         refine⟨.view ((List.range len).map f),by
          unfold Dt
          refine⟨_,rfl,by simp only [zql,List.length_range];exact Nat.le_trans hlc (Nat.le_trans hm (by decide)),fun x hx=> ?_⟩
          simp only [List.mem_map,List.mem_range]at hx
          obtain⟨i,hi,rfl⟩:=hx
          exact(hf i hi).1,rfl,?_⟩
         unfold RP
         refine⟨some a,cap,by simp,by simpa using hlc,hm,?_⟩
         by_cases h0:len=0
         ·left;subst h0;rfl
         ·right
          obtain⟨_,hh,_,hq⟩:=hf 0 (by omega)
          refine⟨a.block,a.off,P.cellsOf e,by obtain⟨b,o,s⟩:=a;simp only at hh;subst hh;rfl,hq,RPE.mk fun i y hy=> ?_⟩
          simp only [zqi,zqj]at hy
          obtain⟨i',ha,rfl⟩:=hy
          have hg:i<len:=by have:=(List.getElem?_eq_some_iff.1 ha).1;simpa using this
          rw [List.getElem?_range hg]at ha
          cases ha
          obtain⟨g1,_,g3,_⟩:=hf i hg
          exact⟨by rw [g1.len,hck],g3⟩
       ·cases hs
      ·cases hs
     ·cases hs
    ·cases hs
   haveI:Inhabited AC:=⟨.dead⟩
   obtain⟨f,hf⟩:∃f:Nat->AC,∀i,i<ks.length->(∀k,ks[i]? =some k->Dt k (f i))/\∃u,cs[i]? =some u/\one u=true/\RP (fun b=>b<w.heap.size) w (f i) u:=Go.Deep.choose_lt hO
   refine⟨(List.range ks.length).map f,DtL.mk (by simp) fun i k c hk hc=> ?_,by simp [hH,hz],fun j c hj=> ?_⟩
   ·simp only [zqi,zqj]at hc
    obtain⟨i',ha,rfl⟩:=hc
    have hg:i<ks.length:=(List.getElem?_eq_some_iff.1 hk).1
    rw [List.getElem?_range hg]at ha
    cases ha
    exact(hf i hg).1 k hk
   ·simp only [zqi,zqj]at hj
    obtain⟨i',ha,rfl⟩:=hj
    have hg:j<ks.length:=by have:=(List.getElem?_eq_some_iff.1 ha).1;simpa using this
    rw [List.getElem?_range hg]at ha
    cases ha
    exact(hf j hg).2
theorem wU{r:Reach}{b0:Nat}{t:TypeId}{fs:Array Field}{v:Value}{d:DataW H}{p:List MemPlace}(hl:laidOutB P=true)(n:Nat)(ks:List Sh)(hlt:t<P.types.size)(hs:P.underlying t=some (.struct fs))(hsh:shL P n t=some ks)
  (hv:Value.okWide P w r b0 t v) (h:DataW.Trod enc P w base spare mO t v d p):∃xs,DtL ks xs/\RT (fun b=>b<w.heap.size) w [] [] (.agg xs) v:=by
 obtain⟨cs,rfl,hb⟩:=okWide_struct hs hv
 obtain⟨ha,hf⟩:=h
 obtain⟨xs,h1,h2,h3⟩:=y9 hl n t ks ha _ _ hlt hsh hf
 refine⟨xs,h1,cs.toList,rfl,h2.symm,fun j c hj=> ?_⟩
 obtain⟨u,g1,g2,g3⟩:=h3 j c hj
 have hc:Dt (ks[j]'(by rw [<-h1.len];exact(List.getElem?_eq_some_iff.1 hj).1)) c\/True:= .inr trivial
 refine⟨u,g1,g2,?_⟩
 cases c with
 |imm v=>unfold RP at g3;exact g3
 |view ys=>exact g3
 |dead=>trivial
 |own r=>unfold RP at g3;exact g3.elim
 |sub r lo k=>unfold RP at g3;exact g3.elim
 |ptr r i o=>unfold RP at g3;exact g3.elim
 |eptr cs o=>unfold RP at g3;exact g3.elim
 |clo f rs=>unfold RP at g3;exact g3.elim
 |fv bs xs=>unfold RP at g3;exact g3.elim
 |old p xs=>unfold RP at g3;exact g3.elim
end
end Go.Proofs.YtckchgoblpgpbaaGreat
namespace Go.Proofs.YtckchgoblpgpbaaGreat
open Go.ChangeShapes Go.WideShapes Go.ChangeAt Go.RowKit Am Go.Proofs.Tryz
set_option maxRecDepth 100000
variable {P:Program}{args:List AT}{f:FuncId}
theorem Fc{ab0:AB}{q:AB->Prop}(hc:dc P f args fun res ha=>∃ab,res= .o 0/\ha=[ab]/\q ab/\ab=ab0):dc P f args fun res ha=>res= .o 0/\ha=[ab0]:=
 Con.mono hc fun res h'⟨ha,h1,ab,h2,h3,_,h4⟩=>⟨ha,h1,h2,by rw [h3,h4]⟩
variable {α:Type}
theorem E8(c:α->Array Value)(xs:List α):Ej (vw c xs)=true:=by
 simp only [Ej,vw,List.all_map,zqf]
 intro x _
 simp [lc]
variable {xs:List α}{V:LLA}
theorem imV{c:α->Array Value}(h:V=vw c xs):Ej V=true:=by rw [h];exact E8 _ _
def Cq(gap z:Int):Int:=if 0<z then gap*(z-1)else 0
def za(x:ag):Int:=x.before+x.behind
def hP(xs:List ag)(ys:List Int)(gap:Int):Int:=(xs.map za).sum+Cq gap xs.length+(ys.map id).sum
theorem AU{gap z:Int}(hz:0<=z):Cq gap (z+1)=Cq gap z+if 0<z then gap else 0:=by
 unfold Cq
 rw [if_pos (by omega)]
 by_cases h:0<z
 ·rw [if_pos h,if_pos h,show z+1-1=(z-1)+1 by omega,Int.mul_add,Int.mul_one]
 ·rw [if_neg h,if_neg h,show z+1-1=0 by omega,Int.mul_zero];rfl
theorem gp(xs:List ag)(ys:List Int)(gap:Int)(hx:xs.length<=1048576)(hy:ys.length<=1048576):PC0 298 [.c (.view (vw ag.c xs)),.c (.view (vw ak ys)),ai gap] (.i (wrap64 (hP xs ys gap))):=by
 obtain⟨V,hV⟩:=nmE (vw ag.c xs)
 obtain⟨W,hW⟩:=nmE (vw ak ys)
 have hk:=lmV hV
 have hl:=lmV hW
 rw [<-hV,<-hW]
 refine ae (aJ f298) ay func298 fun g F hg hF=> ?_
 cbv
 refine bM hg ay (by kernel_rfl) (fun s:Int×Int=>[(0,.v V),(1,.v W),(2,.i gap),(7,.i s.2),(8,.i s.1)]) (fun _=>[]) (fun s=>0<=s.1/\s.1<=aX V/\s.2=wrap64 (wQ za xs s.1.toNat+Cq gap s.1)) (fun s=>V.length-s.1.toNat)
  (0,0) [] ⟨Int.le_refl 0,by have:=az V;simp only;omega,by rw [show((0,0):Int×Int).1.toNat=0 from rfl,jj];exact(aw 0 (by omega)).symm⟩ (wk0 zr5) (fun s B hs hB=> ?_)
 obtain⟨z,a⟩:=s
 obtain⟨h0,h1,h2⟩:=hs
 simp only at h0 h1 h2
 cbv
 cases hc:g .q .lss z (g .ln V)
 ·rw [bh hg,bF hg,zqo]at hc
  cbv
  have ha:a=wrap64 ((xs.map za).sum+Cq gap xs.length):=by rw [h2,lD za (by have:=az V;omega),show z=(xs.length:Int) by have:=az V;omega]
  refine bM hg ay (by kernel_rfl) (fun s:Int×Int=>[(1,.v W),(7,.i s.2),(9,.i s.1)]) (fun _=>[]) (fun s=>0<=s.1/\s.1<=aX W/\s.2=wrap64 ((xs.map za).sum+Cq gap xs.length+wQ id ys s.1.toNat)) (fun s=>W.length-s.1.toNat)
   (0,a) [] ⟨Int.le_refl 0,by have:=az W;simp only;omega,by rw [show((0,a):Int×Int).1.toNat=0 from rfl,jj,Int.add_zero];exact ha⟩ (wk0 zr3) (fun s B2 hs hj=> ?_)
  obtain⟨y,b⟩:=s
  obtain⟨k0,k1,k2⟩:=hs
  simp only at k0 k1 k2
  cbv
  cases hd:g .q .lss y (g .ln W)
  ·rw [bh hg,bF hg,zqo]at hd
   cbv
   exact aV hF (by rw [k2,lD id (by have:=az W;omega)];rfl)
  ·rw [bh hg,bF hg,zqp]at hd
   cbv
   have hh:=az W
   obtain⟨x,hb⟩:=oL (xs:=ys) k0 (by omega)
   have hf:W[y.toNat]? =some (lc (ak x)):=by rw [hW];exact bf hb
   refine goX hg _ k0 hf rfl ?_
   cbv
   have hh:=az W
   have e1:g .w .add .i64 y 1=y+1:=by rw [aN hg,aw _ (by omega)]
   rw [e1,aN hg]
   refine gg hj (y+1,_) [] (wk0 zr3) ⟨by simp only;omega,by simp only;omega,?_⟩ (by show W.length-(y+1).toNat<W.length-y.toNat;omega)
   show wrap64 (b+x)=_
   rw [show(y+1).toNat=y.toNat+1 by omega,jk id hb,k2,mQ,Int.add_assoc];rfl
 ·rw [bh hg,bF hg,zqp]at hc
  cbv
  have hh:=az V
  obtain⟨x,hb⟩:=oL (xs:=xs) h0 (by omega)
  have hf:V[z.toNat]? =some (lc (ag.c x)):=by rw [hV];exact bf hb
  have hi:=jk za hb
  obtain⟨a0,a1,a2,a3,a4,a5,a6,a7,a8⟩:=x
  refine goX hg _ h0 hf rfl ?_
  cbv
  refine goX hg _ h0 hf rfl ?_
  cbv
  have hh:=az V
  have e1:g .w .add .i64 z 1=z+1:=by rw [aN hg,aw _ (by omega)]
  have he:=AU (gap:=gap) h0
  cases hp:g .q .gtr z 0
  ·rw [cu hg,zqo]at hp
   rw [if_neg (by omega),Int.add_zero]at he
   cbv
   rw [e1,aN hg,aN hg]
   refine gg hB (z+1,_) [] (wk0 zr5) ⟨by simp only;omega,by simp only;omega,?_⟩ (by have:=az V;show V.length-(z+1).toNat<V.length-z.toNat;omega)
   show wrap64 (wrap64 (a+a5)+a6)=_
   rw [show(z+1).toNat=z.toNat+1 by omega,hi,he,h2]
   simp only [mQ]
   exact congrArg wrap64 (by simp only [za];omega)
  ·rw [cu hg,zqp]at hp
   rw [if_pos (by omega)]at he
   cbv
   rw [e1,aN hg,aN hg,aN hg]
   refine gg hB (z+1,_) [] (wk0 zr5) ⟨by simp only;omega,by simp only;omega,?_⟩ (by have:=az V;show V.length-(z+1).toNat<V.length-z.toNat;omega)
   show wrap64 (wrap64 (wrap64 (a+a5)+a6)+gap)=_
   rw [show(z+1).toNat=z.toNat+1 by omega,hi,he,h2]
   simp only [mQ]
   exact congrArg wrap64 (by simp only [za];omega)
theorem fq(xs:List ag)(ys:List Int)(gap:Int)(hx:xs.length<=1048576)(hy:ys.length<=1048576):PC0 284 [.c (.view (vw ag.c xs)),.c (.view (vw ak ys)),ai gap] (.i (wrap64 (hP xs ys gap))):=by
 obtain⟨V,hV⟩:=nmE (vw ag.c xs)
 obtain⟨W,hW⟩:=nmE (vw ak ys)
 have hk:=lmV hV
 have hl:=lmV hW
 rw [<-hV,<-hW]
 refine ae (aJ f284) ay func284 fun g F hg hF=> ?_
 cbv
 refine bM hg ay (by kernel_rfl) (fun s:Int×Int=>[(0,.v V),(2,.i gap),(7,.i s.2),(12,.v W),(13,.i (g .ln W)),(14,.i s.1)]) (fun _=>[]) (fun s=>0<=s.1/\s.1<=aX W/\s.2=wrap64 (wQ id ys s.1.toNat)) (fun s=>W.length-s.1.toNat)
  (0,0) [] ⟨Int.le_refl 0,by have:=az W;simp only;omega,by rw [show((0,0):Int×Int).1.toNat=0 from rfl,jj];exact(aw 0 (by omega)).symm⟩ (wk0 zr6) (fun s B hs hB=> ?_)
 obtain⟨z,a⟩:=s
 obtain⟨h0,h1,h2⟩:=hs
 simp only at h0 h1 h2
 cbv
 cases hc:g .q .lss z (g .ln W)
 ·rw [bh hg,bF hg,zqo]at hc
  cbv
  have ha:a=wrap64 ((ys.map id).sum):=by rw [h2,lD id (by have:=az W;omega)]
  refine bM hg ay (by kernel_rfl) (fun s:Int×Int=>[(0,.v V),(2,.i gap),(7,.i s.2),(22,.v V),(23,.i (g .ln V)),(24,.i s.1)]) (fun _=>[]) (fun s=>0<=s.1/\s.1<=aX V/\s.2=wrap64 ((ys.map id).sum+wQ za xs s.1.toNat)) (fun s=>V.length-s.1.toNat)
   (0,a) [] ⟨Int.le_refl 0,by have:=az V;simp only;omega,by rw [show((0,a):Int×Int).1.toNat=0 from rfl,jj,Int.add_zero];exact ha⟩ (wk0 zr6) (fun s B2 hs hi=> ?_)
  obtain⟨y,b⟩:=s
  obtain⟨k0,k1,k2⟩:=hs
  simp only at k0 k1 k2
  cbv
  cases hd:g .q .lss y (g .ln V)
  ·rw [bh hg,bF hg,zqo]at hd
   cbv
   have kb:b=wrap64 ((ys.map id).sum+(xs.map za).sum):=by rw [k2,lD za (by have:=az V;omega)]
   have hb:=az V
   cases he:g .q .gtr (g .ln V) 0
   ·rw [cu hg,bF hg,zqo]at he
    cbv
    have hb:=az V
    exact aV hF (by rw [kb];unfold hP Cq;rw [if_neg (by omega)];exact congrArg wrap64 (by omega))
   ·rw [cu hg,bF hg,zqp]at he
    cbv
    have hb:=az V
    exact aV hF (by
     rw [aN hg,gc hg,bZ hg,bF hg,aw (aX V-1) (by omega),kb,mQ,sx]
     unfold hP Cq
     rw [if_pos (by omega),show aX V=(xs.length:Int) by omega]
     exact congrArg wrap64 (by omega))
  ·rw [bh hg,bF hg,zqp]at hd
   cbv
   have hb:=az V
   obtain⟨x,hf⟩:=oL (xs:=xs) k0 (by omega)
   have hh:V[y.toNat]? =some (lc (ag.c x)):=by rw [hV];exact bf hf
   have hj:=jk za hf
   obtain⟨a0,a1,a2,a3,a4,a5,a6,a7,a8⟩:=x
   refine goX hg _ k0 hh rfl ?_
   cbv
   have hb:=az V
   have e1:g .w .add .i64 y 1=y+1:=by rw [aN hg,aw _ (by omega)]
   rw [e1,aN hg,aN hg]
   refine gg hi (y+1,_) [] (wkS [] (by decide) trivial zr6) ⟨by simp only;omega,by simp only;omega,?_⟩ (by show V.length-(y+1).toNat<V.length-y.toNat;omega)
   show wrap64 (b+wrap64 (a5+a6))=_
   rw [show(y+1).toNat=y.toNat+1 by omega,hj,k2,mQ,sx]
   exact congrArg wrap64 (by simp only [za];omega)
 ·rw [bh hg,bF hg,zqp]at hc
  cbv
  have hb:=az W
  obtain⟨x,hf⟩:=oL (xs:=ys) h0 (by omega)
  have hh:W[z.toNat]? =some (lc (ak x)):=by rw [hW];exact bf hf
  refine goX hg _ h0 hh rfl ?_
  cbv
  have hb:=az W
  have e1:g .w .add .i64 z 1=z+1:=by rw [aN hg,aw _ (by omega)]
  rw [e1,aN hg]
  refine gg hB (z+1,_) [] (wk0 zr6) ⟨by simp only;omega,by simp only;omega,?_⟩ (by show W.length-(z+1).toNat<W.length-z.toNat;omega)
  show wrap64 (a+x)=_
  rw [show(z+1).toNat=z.toNat+1 by omega,jk id hf,h2,mQ];rfl
def vwA(c:α->List AC)(xs:List α):LLA:=xs.map c
theorem bC(c:α->List AC)(xs:List α):(vwA c xs).length=xs.length:=by simp [vwA]
theorem gR{c:α->List AC}{i:Nat}{x:α}(h:xs[i]? =some x):(vwA c xs)[i]? =some (c x):=by simp [vwA,h]
theorem yN{c:α->List AC}{k:Nat}(hk:∀x,(c x).length=k):∀y∈vwA c xs,y.length=k:=by
 intro y hy
 simp only [vwA,List.mem_map]at hy
 obtain⟨x,_,rfl⟩:=hy
 exact hk x
theorem nS{c:α->List AC}(hd:∀x,(c x).all dat=true):∀y∈vwA c xs,y.all dat=true:=by
 intro y hy
 simp only [vwA,List.mem_map]at hy
 obtain⟨x,_,rfl⟩:=hy
 exact hd x
theorem kx{c:α->List AC}(hp:∀x,(c x).all dP=true)(xs:List α):aC (vwA c xs)=true:=by
 simp only [aC,zqf]
 intro y hy
 simp only [vwA,List.mem_map]at hy
 obtain⟨x,_,rfl⟩:=hy
 exact List.all_eq_true.1 (hp x)
theorem tH{α:Type}{c:α->List AC}{q:List AC->Prop}{p:α->Prop}(hq:∀x,q x->∃a,x=c a/\p a):∀{xs:LLA},(∀x∈xs,q x)->∃l:List α,xs=vwA c l/\∀a∈l,p a
 | [],_=>⟨[],rfl,by simp⟩
 |x::xs,h=>by
  obtain⟨a,ha,hp⟩:=hq x (h x (by simp))
  obtain⟨l,hl,hc⟩:=tH hq (xs:=xs) fun y hy=>h y (by simp [hy])
  exact⟨a::l,by rw [ha,hl];rfl,fun b hb=>by rcases List.mem_cons.1 hb with rfl|hb;exact hp;exact hc b hb⟩
theorem xT{c:α->Array Value}{q:List AC->Prop}(hq:∀x,q x->∃a,x=lc (c a)){xs:LLA}(h:∀x∈xs,q x):∃l:List α,xs=vw c l:=by
 obtain⟨l,hl,_⟩:=tH (c:=fun a=>lc (c a)) (p:=fun _=>True) (fun x hx=>let⟨a,ha⟩:=hq x hx;⟨a,ha,trivial⟩) h
 exact⟨l,hl⟩
variable {ks:List Sh}
theorem aU{k:Sh}:∀{xs:List AC},DtL (k::ks) xs->∃c cs,xs=c::cs/\Dt k c/\DtL ks cs
 | [],h=>by simp [DtL]at h
 |c::cs,h=>by unfold DtL at h;exact⟨c,cs,rfl,h.1,h.2⟩
theorem yw:∀{xs:List AC},DtL [] xs->xs=[]
 | [],_=>rfl
 |_::_,h=>by simp [DtL]at h
theorem fA{c:AC}(h:Dt .i c):∃n,c= .J n:=by unfold Dt at h;obtain⟨n,_,h⟩:=h;exact⟨n,h⟩
theorem He{c:AC}(h:Dt .b c):∃n,c= .B n:=by unfold Dt at h;exact h
theorem Hd{c:AC}(h:Dt (.s ks) c):∃xs:LLA,c= .view xs/\xs.length<=9223372036854775807/\∀x∈xs,DtL ks x:=by unfold Dt at h;exact h
theorem fz{n:Nat}{a z:Int}(h:a=(n:Int))(hz:z<a):z<(n:Int):=h▸hz
variable {z:Int}
theorem Dg{es V:LLA}(hl:es.length=V.length)(hz:z<aX V):z<aX es:=by rw [az]at hz⊢;rw [hl];exact hz
theorem wW{es:LLA}{j:Nat}(h0:0<=z)(hc:z<aX es)(hj:j=z.toNat):j<es.length:=by subst hj;rw [az]at hc;omega
theorem xI{n:Nat}{L:Int}(hl:V.length=n)(h:(V.length:Int)<=L)(hL:L<=1048576):n<=1048576:=by omega
theorem pB{p:α->Prop}{M z:Int}(hM:M=(xs.length:Int))(hz:M<=z)(h:∀(i:Nat)(y:α),i<z.toNat->xs[i]? =some y->p y):∀y∈xs,p y:=fun y hy=>by
 obtain⟨i,hi,he⟩:=List.getElem_of_mem hy
 exact h i y (by omega) (by rw [zqc hi,he])
theorem Hp{n0 N:Nat}{g:Gd}(hg:g=G0 P n0 N){xs:LLA}{j k:Nat}{K:Nat->Prop}(hz:0<=z)(hj:j=z.toNat)(hy:j<xs.length)(hK:K j):g .Y k xs z K:=by subst hg hj;exact⟨hz,hy,hK⟩
variable {Q:Int->Prop}
theorem zl{n0 N:Nat}{g:Gd}(hg:g=G0 P n0 N){h:EH}{K:AV->EH->Prop}(hc:dc P f args fun res ha=>∃R:Int,res= .i R/\ha=[]/\Q R)(hp:iv args=true)
  (hK:∀R,Q R->K (.t (.c (.J R))) (h++[])):g .C f h args K:=
 uS hg (fE hc hp fun res ha⟨R,h1,h2,h3⟩=>by subst h1 h2;exact⟨[],rfl,hK R h3⟩)
theorem BE{F:List AT->EH->Prop}{eh:EH}(hF:F=mA 0 (fun res h'=>∃rows,h'=rows.map .live/\(∃R:Int,res= .i R/\rows=[]/\Q R)))(h:Q z):F [.c (.J z)] eh:=
 fg hF rfl ⟨z,rfl,rfl,h⟩
theorem szZ{L:Int}(hc:dc P f args fun res ha=>res= .i (szR (aX V) L)/\ha=[]):dc P f args fun res ha=>∃R:Int,res= .i R/\ha=[]/\(R<=L\/R<0)/\(0<=R->(V.length:Int)<=L):=
 Con.mono hc fun res h'⟨ha,h1,h2,h3⟩=>⟨ha,h1,_,h2,h3,by unfold szR;rw [az];split<;>omega,by unfold szR;rw [az];split<;>omega⟩
theorem aO.of_(x:List AC)(h:DtL [.i,.i,.i] x):∃a:aO,x=lc (aO.c a):=by
 obtain⟨c0,t0,rfl,d0,h⟩:=aU h
 obtain⟨c1,t1,rfl,d1,h⟩:=aU h
 obtain⟨c2,t2,rfl,d2,h⟩:=aU h
 obtain rfl:=yw h
 obtain⟨a0,rfl⟩:=fA d0
 obtain⟨a1,rfl⟩:=fA d1
 obtain⟨a2,rfl⟩:=fA d2
 exact⟨⟨a0,a1,a2⟩,rfl⟩
structure kl where
 rules:List aO
def kl.ac:kl->List AC
 |⟨a0⟩=>[.view (vw aO.c a0)]
def kl.small:kl->Prop
 |⟨a0⟩=>a0.length<=1048576/\True
def kl.fit:kl->Prop
 |⟨a0⟩=>a0.length<=9223372036854775807/\True
theorem Int.of_(x:List AC)(h:DtL [.i] x):∃a:Int,x=lc (ak a):=by
 obtain⟨c0,t0,rfl,d0,h⟩:=aU h
 obtain rfl:=yw h
 obtain⟨a0,rfl⟩:=fA d0
 exact⟨a0,rfl⟩
structure af where
 up:Int
 kids:List Int
 style:aj
 measured:Bool
 table:kl
def af.ac:af->List AC
 |⟨a0,a1,⟨a2,a3,a4,a5,a6,a7,a8,a9,a10,a11,a12,⟨a13,a14⟩,⟨a15,a16⟩,⟨a17,a18⟩,⟨a19,a20⟩,⟨a21,a22⟩,⟨a23,a24⟩,⟨a25,a26⟩,a27,⟨⟨a28,a29⟩,⟨a30,a31⟩,⟨a32,a33⟩,⟨a34,a35⟩,⟨a36,a37⟩,⟨a38,a39⟩⟩,⟨⟨a40,a41⟩,⟨a42,a43⟩,⟨a44,a45⟩,⟨a46,a47⟩,⟨a48,a49⟩,⟨a50,a51⟩⟩,⟨a52,a53,a54,a55⟩,⟨a56,a57,a58,a59⟩,a60,a61⟩,a62,⟨a63⟩⟩=>[.imm (.int .i64 a0),.view (vw ak a1),.imm (.int .i64 a2),.imm (.int .i64 a3),.imm (.int .i64 a4),.imm (.int .i64 a5),.imm (.int .i64 a6),.imm (.int .i64 a7),.imm (.bool a8),.imm (.bool a9),.imm (.int .i64 a10),.imm (.int .i64 a11),.imm (.int .i64 a12),.imm (.int .i64 a13),.imm (.int .i64 a14),.imm (.int .i64 a15),.imm (.int .i64 a16),.imm (.int .i64 a17),.imm (.int .i64 a18),.imm (.int .i64 a19),.imm (.int .i64 a20),.imm (.int .i64 a21),.imm (.int .i64 a22),.imm (.int .i64 a23),.imm (.int .i64 a24),.imm (.int .i64 a25),.imm (.int .i64 a26),.imm (.int .i64 a27),.imm (.int .i64 a28),.imm (.int .i64 a29),.imm (.int .i64 a30),.imm (.int .i64 a31),.imm (.int .i64 a32),.imm (.int .i64 a33),.imm (.int .i64 a34),.imm (.int .i64 a35),.imm (.int .i64 a36),.imm (.int .i64 a37),.imm (.int .i64 a38),.imm (.int .i64 a39),.imm (.int .i64 a40),.imm (.int .i64 a41),.imm (.int .i64 a42),.imm (.int .i64 a43),.imm (.int .i64 a44),.imm (.int .i64 a45),.imm (.int .i64 a46),.imm (.int .i64 a47),.imm (.int .i64 a48),.imm (.int .i64 a49),.imm (.int .i64 a50),.imm (.int .i64 a51),.imm (.int .i64 a52),.imm (.int .i64 a53),.imm (.int .i64 a54),.imm (.int .i64 a55),.imm (.int .i64 a56),.imm (.int .i64 a57),.imm (.int .i64 a58),.imm (.int .i64 a59),.imm (.int .i64 a60),.imm (.int .i64 a61),.imm (.bool a62),.view (vw aO.c a63)]
def af.sh:List Sh:=[.i,.s [.i],.i,.i,.i,.i,.i,.i,.b,.b,.i,.i,.i,.i,.i,.i,.i,.i,.i,.i,.i,.i,.i,.i,.i,.i,.i,.i,.i,.i,.i,.i,.i,.i,.i,.i,.i,.i,.i,.i,.i,.i,.i,.i,.i,.i,.i,.i,.i,.i,.i,.i,.i,.i,.i,.i,.i,.i,.i,.i,.i,.i,.b,.s [.i,.i,.i]]
def af.small:af->Prop
 |⟨a0,a1,⟨a2,a3,a4,a5,a6,a7,a8,a9,a10,a11,a12,⟨a13,a14⟩,⟨a15,a16⟩,⟨a17,a18⟩,⟨a19,a20⟩,⟨a21,a22⟩,⟨a23,a24⟩,⟨a25,a26⟩,a27,⟨⟨a28,a29⟩,⟨a30,a31⟩,⟨a32,a33⟩,⟨a34,a35⟩,⟨a36,a37⟩,⟨a38,a39⟩⟩,⟨⟨a40,a41⟩,⟨a42,a43⟩,⟨a44,a45⟩,⟨a46,a47⟩,⟨a48,a49⟩,⟨a50,a51⟩⟩,⟨a52,a53,a54,a55⟩,⟨a56,a57,a58,a59⟩,a60,a61⟩,a62,⟨a63⟩⟩=>a1.length<=1048576/\a63.length<=1048576/\True
def af.fit:af->Prop
 |⟨a0,a1,⟨a2,a3,a4,a5,a6,a7,a8,a9,a10,a11,a12,⟨a13,a14⟩,⟨a15,a16⟩,⟨a17,a18⟩,⟨a19,a20⟩,⟨a21,a22⟩,⟨a23,a24⟩,⟨a25,a26⟩,a27,⟨⟨a28,a29⟩,⟨a30,a31⟩,⟨a32,a33⟩,⟨a34,a35⟩,⟨a36,a37⟩,⟨a38,a39⟩⟩,⟨⟨a40,a41⟩,⟨a42,a43⟩,⟨a44,a45⟩,⟨a46,a47⟩,⟨a48,a49⟩,⟨a50,a51⟩⟩,⟨a52,a53,a54,a55⟩,⟨a56,a57,a58,a59⟩,a60,a61⟩,a62,⟨a63⟩⟩=>a1.length<=9223372036854775807/\a63.length<=9223372036854775807/\True
def zE:List AC:=[.J 0,.N,.J 0,.J 0,.J 0,.J 0,.J 0,.J 0,.B false,.B false,.J 0,.J 0,.J 0,.J 0,.J 0,.J 0,.J 0,.J 0,.J 0,.J 0,.J 0,.J 0,.J 0,.J 0,.J 0,.J 0,.J 0,.J 0,.J 0,.J 0,.J 0,.J 0,.J 0,.J 0,.J 0,.J 0,.J 0,.J 0,.J 0,.J 0,.J 0,.J 0,.J 0,.J 0,.J 0,.J 0,.J 0,.J 0,.J 0,.J 0,.J 0,.J 0,.J 0,.J 0,.J 0,.J 0,.J 0,.J 0,.J 0,.J 0,.J 0,.J 0,.B false,.N]
theorem af.len(x:af):x.ac.length=64:=rfl
theorem af.dat(x:af):x.ac.all Am.dat=true:=rfl
theorem af.plain(x:af):x.ac.all Am.dP=true:=rfl
theorem af.of_(x:List AC)(h:DtL af.sh x):∃a:af,x=a.ac/\a.fit:=by
 obtain⟨c0,t0,rfl,d0,h⟩:=aU h
 obtain⟨c1,t1,rfl,d1,h⟩:=aU h
 obtain⟨c2,t2,rfl,d2,h⟩:=aU h
 obtain⟨c3,t3,rfl,d3,h⟩:=aU h
 obtain⟨c4,t4,rfl,d4,h⟩:=aU h
 obtain⟨c5,t5,rfl,d5,h⟩:=aU h
 obtain⟨c6,t6,rfl,d6,h⟩:=aU h
 obtain⟨c7,t7,rfl,d7,h⟩:=aU h
 obtain⟨c8,t8,rfl,d8,h⟩:=aU h
 obtain⟨c9,t9,rfl,d9,h⟩:=aU h
 obtain⟨xX,yQ,rfl,h3,h⟩:=aU h
 obtain⟨xY,yR,rfl,h4,h⟩:=aU h
 obtain⟨xZ,yS,rfl,h5,h⟩:=aU h
 obtain⟨x0,yT,rfl,h6,h⟩:=aU h
 obtain⟨x1,yU,rfl,h7,h⟩:=aU h
 obtain⟨x2,yV,rfl,h8,h⟩:=aU h
 obtain⟨x3,yW,rfl,h9,h⟩:=aU h
 obtain⟨x4,yX,rfl,xa,h⟩:=aU h
 obtain⟨x5,yY,rfl,xb,h⟩:=aU h
 obtain⟨x6,yZ,rfl,xc,h⟩:=aU h
 obtain⟨x7,y0,rfl,xd,h⟩:=aU h
 obtain⟨x8,y1,rfl,xe,h⟩:=aU h
 obtain⟨x9,y2,rfl,xf,h⟩:=aU h
 obtain⟨ya,y3,rfl,xg,h⟩:=aU h
 obtain⟨yb,y4,rfl,xh,h⟩:=aU h
 obtain⟨yc,y5,rfl,xi,h⟩:=aU h
 obtain⟨yd,y6,rfl,xj,h⟩:=aU h
 obtain⟨ye,y7,rfl,xk,h⟩:=aU h
 obtain⟨yf,y8,rfl,xl,h⟩:=aU h
 obtain⟨yg,y9,rfl,xm,h⟩:=aU h
 obtain⟨yh,za,rfl,xn,h⟩:=aU h
 obtain⟨yi,zb,rfl,xo,h⟩:=aU h
 obtain⟨yj,zc,rfl,xp,h⟩:=aU h
 obtain⟨yk,zd,rfl,xq,h⟩:=aU h
 obtain⟨yl,ze,rfl,xr,h⟩:=aU h
 obtain⟨ym,zf,rfl,xs,h⟩:=aU h
 obtain⟨yn,zg,rfl,xt,h⟩:=aU h
 obtain⟨yo,zh,rfl,xu,h⟩:=aU h
 obtain⟨yp,zi,rfl,xv,h⟩:=aU h
 obtain⟨yq,zj,rfl,xw,h⟩:=aU h
 obtain⟨yr,zk,rfl,xx,h⟩:=aU h
 obtain⟨ys,zl,rfl,xy,h⟩:=aU h
 obtain⟨yt,zm,rfl,xz,h⟩:=aU h
 obtain⟨yu,zn,rfl,xA,h⟩:=aU h
 obtain⟨yv,zo,rfl,xB,h⟩:=aU h
 obtain⟨yx,zp,rfl,xC,h⟩:=aU h
 obtain⟨yy,zq,rfl,xD,h⟩:=aU h
 obtain⟨yz,zr,rfl,xE,h⟩:=aU h
 obtain⟨yA,zs,rfl,xF,h⟩:=aU h
 obtain⟨yB,zt,rfl,xG,h⟩:=aU h
 obtain⟨yC,zu,rfl,xH,h⟩:=aU h
 obtain⟨yD,zv,rfl,xI,h⟩:=aU h
 obtain⟨yE,zw,rfl,xJ,h⟩:=aU h
 obtain⟨yF,zx,rfl,xK,h⟩:=aU h
 obtain⟨yG,zy,rfl,xL,h⟩:=aU h
 obtain⟨yH,zz,rfl,xM,h⟩:=aU h
 obtain⟨yI,zA,rfl,xN,h⟩:=aU h
 obtain⟨yJ,zB,rfl,xO,h⟩:=aU h
 obtain⟨yK,zC,rfl,xP,h⟩:=aU h
 obtain⟨yL,zD,rfl,xQ,h⟩:=aU h
 obtain⟨yM,zE,rfl,xR,h⟩:=aU h
 obtain⟨yN,zF,rfl,xS,h⟩:=aU h
 obtain⟨yO,zG,rfl,xU,h⟩:=aU h
 obtain⟨yP,zH,rfl,xV,h⟩:=aU h
 obtain rfl:=yw h
 obtain⟨a0,rfl⟩:=fA d0
 obtain⟨w1,rfl,l1,e1⟩:=Hd d1
 obtain⟨a1,rfl⟩:=xT (c:=ak) Int.of_ e1
 rw [aq]at l1
 obtain⟨a2,rfl⟩:=fA d2
 obtain⟨a3,rfl⟩:=fA d3
 obtain⟨a4,rfl⟩:=fA d4
 obtain⟨a5,rfl⟩:=fA d5
 obtain⟨a6,rfl⟩:=fA d6
 obtain⟨a7,rfl⟩:=fA d7
 obtain⟨a8,rfl⟩:=He d8
 obtain⟨a9,rfl⟩:=He d9
 obtain⟨hb,rfl⟩:=fA h3
 obtain⟨hc,rfl⟩:=fA h4
 obtain⟨hd,rfl⟩:=fA h5
 obtain⟨he,rfl⟩:=fA h6
 obtain⟨hf,rfl⟩:=fA h7
 obtain⟨hg,rfl⟩:=fA h8
 obtain⟨hh,rfl⟩:=fA h9
 obtain⟨hi,rfl⟩:=fA xa
 obtain⟨hj,rfl⟩:=fA xb
 obtain⟨hk,rfl⟩:=fA xc
 obtain⟨hl,rfl⟩:=fA xd
 obtain⟨hm,rfl⟩:=fA xe
 obtain⟨hn,rfl⟩:=fA xf
 obtain⟨ho,rfl⟩:=fA xg
 obtain⟨hp,rfl⟩:=fA xh
 obtain⟨hq,rfl⟩:=fA xi
 obtain⟨hr,rfl⟩:=fA xj
 obtain⟨hs,rfl⟩:=fA xk
 obtain⟨ht,rfl⟩:=fA xl
 obtain⟨hu,rfl⟩:=fA xm
 obtain⟨hv,rfl⟩:=fA xn
 obtain⟨hw,rfl⟩:=fA xo
 obtain⟨hx,rfl⟩:=fA xp
 obtain⟨hy,rfl⟩:=fA xq
 obtain⟨hz,rfl⟩:=fA xr
 obtain⟨hA,rfl⟩:=fA xs
 obtain⟨hB,rfl⟩:=fA xt
 obtain⟨hC,rfl⟩:=fA xu
 obtain⟨hD,rfl⟩:=fA xv
 obtain⟨hE,rfl⟩:=fA xw
 obtain⟨hF,rfl⟩:=fA xx
 obtain⟨hG,rfl⟩:=fA xy
 obtain⟨hH,rfl⟩:=fA xz
 obtain⟨hI,rfl⟩:=fA xA
 obtain⟨hJ,rfl⟩:=fA xB
 obtain⟨hK,rfl⟩:=fA xC
 obtain⟨hL,rfl⟩:=fA xD
 obtain⟨hM,rfl⟩:=fA xE
 obtain⟨hN,rfl⟩:=fA xF
 obtain⟨hO,rfl⟩:=fA xG
 obtain⟨hP,rfl⟩:=fA xH
 obtain⟨hQ,rfl⟩:=fA xI
 obtain⟨hR,rfl⟩:=fA xJ
 obtain⟨hS,rfl⟩:=fA xK
 obtain⟨hT,rfl⟩:=fA xL
 obtain⟨hU,rfl⟩:=fA xM
 obtain⟨hV,rfl⟩:=fA xN
 obtain⟨hW,rfl⟩:=fA xO
 obtain⟨hX,rfl⟩:=fA xP
 obtain⟨hY,rfl⟩:=fA xQ
 obtain⟨hZ,rfl⟩:=fA xR
 obtain⟨h0,rfl⟩:=fA xS
 obtain⟨h1,rfl⟩:=He xU
 obtain⟨zI,rfl,ha,xW⟩:=Hd xV
 obtain⟨h2,rfl⟩:=xT (c:=aO.c) aO.of_ xW
 rw [aq]at ha
 exact⟨⟨a0,a1,⟨a2,a3,a4,a5,a6,a7,a8,a9,hb,hc,hd,⟨he,hf⟩,⟨hg,hh⟩,⟨hi,hj⟩,⟨hk,hl⟩,⟨hm,hn⟩,⟨ho,hp⟩,⟨hq,hr⟩,hs,⟨⟨ht,hu⟩,⟨hv,hw⟩,⟨hx,hy⟩,⟨hz,hA⟩,⟨hB,hC⟩,⟨hD,hE⟩⟩,⟨⟨hF,hG⟩,⟨hH,hI⟩,⟨hJ,hK⟩,⟨hL,hM⟩,⟨hN,hO⟩,⟨hP,hQ⟩⟩,⟨hR,hS,hT,hU⟩,⟨hV,hW,hX,hY⟩,hZ,h0⟩,h1,⟨h2⟩⟩,rfl,⟨l1,ha,trivial⟩⟩
structure kr where
 nodes:List af
def kr.ac:kr->List AC
 |⟨a0⟩=>[.view (vwA af.ac a0)]
def kr.sh:List Sh:=[.s af.sh]
def kr.small:kr->Prop
 |⟨a0⟩=>a0.length<=1048576/\(∀y∈a0,af.small y)/\True
def kr.fit:kr->Prop
 |⟨a0⟩=>a0.length<=9223372036854775807/\(∀y∈a0,af.fit y)/\True
theorem kr.of_(x:List AC)(h:DtL kr.sh x):∃a:kr,x=a.ac/\a.fit:=by
 obtain⟨c0,t0,rfl,d0,h⟩:=aU h
 obtain rfl:=yw h
 obtain⟨w0,rfl,l0,e0⟩:=Hd d0
 obtain⟨a0,rfl,f0⟩:=tH (c:=af.ac) af.of_ e0
 rw [bC]at l0
 exact⟨⟨a0⟩,rfl,⟨l0,f0,trivial⟩⟩
structure ju where
 wide:Int
 high:Int
 base:Int
 frames:List aM
def ju.ac:ju->List AC
 |⟨a0,a1,a2,a3⟩=>[.imm (.int .i64 a0),.imm (.int .i64 a1),.imm (.int .i64 a2),.view (vw aM.c a3)]
structure oz where
 node:Int
 wide:aI
 high:aI
 rtl:Bool
 box:ju
def oz.ac:oz->List AC
 |⟨a0,⟨a1,a2⟩,⟨a3,a4⟩,a5,⟨a6,a7,a8,a9⟩⟩=>[.imm (.int .i64 a0),.imm (.int .i64 a1),.imm (.int .i64 a2),.imm (.int .i64 a3),.imm (.int .i64 a4),.imm (.bool a5),.imm (.int .i64 a6),.imm (.int .i64 a7),.imm (.int .i64 a8),.view (vw aM.c a9)]
end Go.Proofs.YtckchgoblpgpbaaGreat
