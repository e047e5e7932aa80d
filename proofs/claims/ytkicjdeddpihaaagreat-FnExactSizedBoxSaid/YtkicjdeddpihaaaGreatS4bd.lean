/- Weights, shares, items: contracts. -/
import Derived.Test.YtkicjdeddpihaaaGreatS4bc
set_option linter.unusedVariables false
set_option linter.unusedSimpArgs false
set_option maxHeartbeats 1600000
namespace Go.Proofs.YtkicjdeddpihaaaGreat
open Go.ChangeShapes Go.WideShapes Go.ChangeAt Go.RowKit Am Go.Proofs.Tryz
set_option maxRecDepth 100000
def ww(x:af):Int:=if 0<=x.most/\x.most<x.least then x.least else x.most
def qE(x:af):Int:=if x.most<x.least then x.least else x.most
def td(x:af):Bool:=rng x.base 0 1048576&&(rng x.least 0 1048576&&(rng x.most (-1) 1048576&&(rng x.grow 0 1000&&(rng x.shrink 0 1000&&(rng x.before (-1048576) 1048576&&rng x.behind (-1048576) 1048576)))))
def ep(xs:List af):Bool:=xs.all td&&decide ((xs.length:Int)<=12)
def wgt(gr:Bool)(x:af):Int:=if gr then x.grow else wrap64 (x.shrink*x.base)
def CE(xs:List af)(gap inner:Int):Bool:=decide (wrap64 (iv xs (xs.map hyp) gap)<inner)
def Bl(ws:List Int):Bool:=ws.all (fun w=>rng w 0 1073741824)&&decide ((ws.length:Int)<=64)
def oZ:Int->List Int->Int
 |a,[]=>a
 |a,w::ws=>oZ (wrap64 (a+w)) ws
def shG(n all:Int):Int->List Int->List Int
 |_,[]=>[]
 |s,w::ws=>wrap64 (fdv (wrap64 (n*wrap64 (s+w))) all-fdv (wrap64 (n*s)) all)::shG n all (wrap64 (s+w)) ws
def shr(n:Int)(ws:List Int):List Int:=if Bl ws then shG (sg n) (oZ 0 ws) 0 ws else []
theorem xN(n all:Int):∀(s:Int)(ws:List Int),(shG n all s ws).length=ws.length
 |_,[]=>rfl
 |s,w::ws=>by simp [shG,xN n all]
def itA(xs:List af)(i:Int):af:=xs[i.toNat]?.getD ⟨0,0,0,0,0,0,0,false,false⟩
def fre:Int->List Bool->List Int
 |_,[]=>[]
 |i,f::fs=>if f then fre (i+1) fs else i::fre (i+1) fs
def mix:List af->List Bool->List Int->List Int
 |x::xs,f::fs,s::ss=>(if f then s else x.base)::mix xs fs ss
 |_,_,_=>[]
def wg(xs:List af)(ss:List Int)(gap inner:Int)(gr:Bool):Int:=
 let n:=wrap64 (inner-wrap64 (iv xs ss gap))
 if(gr=true/\n<0)\/(gr=false/\0<n)then 0 else sg n
def tgt(gr:Bool)(all rest:Int)(x:af):Int:=wrap64 (wrap64 (x.base*all)+wrap64 (rest*wgt gr x))
def qr(gr:Bool)(all rest:Int)(x:af):Bool:=decide (tgt gr all rest x<wrap64 (x.least*all))
def vK(gr:Bool)(all rest:Int)(x:af):Bool:=decide (0<=x.most)&&decide (wrap64 (qE x*all)<tgt gr all rest x)
def wc(gr:Bool)(all rest:Int)(v:Int)(x:af):Int:=
 if qr gr all rest x then wrap64 (v+wrap64 (wrap64 (x.least*all)-tgt gr all rest x))else if vK gr all rest x then wrap64 (v-wrap64 (tgt gr all rest x-wrap64 (qE x*all)))else v
def ovr(gr:Bool)(all rest:Int)(x:af):Int:=
 if qr gr all rest x then wrap64 (wrap64 (x.least*all)-tgt gr all rest x)else if 0<=x.most/\wrap64 (ww x*all)<tgt gr all rest x then wrap64 (wrap64 (ww x*all)-tgt gr all rest x)else 0
def pJ(ps:List (Int×Int))(l:List Int):List Int:=ps.foldl (fun l p=>l.set p.1.toNat p.2) l
def o4(is:List Int)(l:List Bool):List Bool:=is.foldl (fun l i=>l.set i.toNat true) l
structure Fx where
 xs:List af
 gap:Int
 inner:Int
 gr:Bool
def Fx.ws(X:Fx)(fr:List Bool):List Int:=(fre 0 fr).map fun i=>wgt X.gr (itA X.xs i)
def Fx.all(X:Fx)(fr:List Bool):Int:=oZ 0 (X.ws fr)
def Fx.low(X:Fx)(fr:List Bool)(rest:Int):List Int:=(fre 0 fr).filter fun i=>qr X.gr (X.all fr) rest (itA X.xs i)
def Fx.hig(X:Fx)(fr:List Bool)(rest:Int):List Int:=(fre 0 fr).filter fun i=> !qr X.gr (X.all fr) rest (itA X.xs i)&&vK X.gr (X.all fr) rest (itA X.xs i)
def Fx.vio(X:Fx)(fr:List Bool)(rest:Int):Int:=(fre 0 fr).foldl (fun v i=>wc X.gr (X.all fr) rest v (itA X.xs i)) 0
def Fx.shs(X:Fx)(fr:List Bool)(rest:Int):List (Int×Int):=((fre 0 fr).zip (shr rest (X.ws fr))).map fun p=>(p.1,cl (wrap64 ((itA X.xs p.1).base+p.2)))
def Fx.setI(X:Fx)(fr:List Bool)(rest:Int):List (Int×Int):=
 if X.low fr rest=[]/\X.hig fr rest=[]then X.shs fr rest
 else(if 0<=X.vio fr rest then(X.low fr rest).map fun i=>(i,(itA X.xs i).least)else [])++(if X.vio fr rest<=0 then(X.hig fr rest).map fun i=>(i,qE (itA X.xs i))else [])
def Fx.rI(X:Fx)(fr:List Bool)(sz:List Int):Int:=wg X.xs (mix X.xs fr sz) X.gap X.inner X.gr
def Fx.runI(X:Fx):Nat->List Int->List Bool->Option (List Int)
 |0,_,_=>none
 |k+1,sz,fr=>if fre 0 fr=[]then some sz else X.runI k (pJ (X.setI fr (X.rI fr sz)) sz) (o4 ((X.setI fr (X.rI fr sz)).map (·.1)) fr)
def Fx.ovs(X:Fx)(fr:List Bool)(rest:Int):List Int:=(fre 0 fr).map fun i=>ovr X.gr (X.all fr) rest (itA X.xs i)
def Fx.setS(X:Fx)(fr:List Bool)(rest:Int):List (Int×Int):=
 let some_:=(X.ovs fr rest).any fun o=>o !=0
 let sum:=oZ 0 (X.ovs fr rest)
 ((fre 0 fr).zip ((X.ovs fr rest).zip (shr rest (X.ws fr)))).filterMap fun p=>
  if some_=false then some (p.1,cl (wrap64 ((itA X.xs p.1).base+p.2.2)))
  else if 0<p.2.1/\0<=sum then some (p.1,(itA X.xs p.1).least)
  else if p.2.1<0/\sum<=0 then some (p.1,ww (itA X.xs p.1))else none
def Fx.runS(X:Fx):Nat->List Int->List Bool->Option (List Int)
 |0,_,_=>none
 |k+1,sz,fr=>if fre 0 fr=[]then some sz else X.runS k (pJ (X.setS fr (wg X.xs sz X.gap X.inner X.gr)) sz) (o4 ((X.setS fr (wg X.xs sz X.gap X.inner X.gr)).map (·.1)) fr)
theorem Ce:∀(xs:List af)(fr:List Bool)(sz:List Int),fr.length=xs.length->sz.length=xs.length->(mix xs fr sz).length=xs.length
 | [],_,_,_,_=>rfl
 |x::xs,f::fs,s::ss,h1,h2=>by simp only [mix,zqx];rw [Ce xs fs ss (by simpa using h1) (by simpa using h2)]
 |_::_,[],_,h,_=>by simp at h
 |_::_,_::_,[],_,h=>by simp at h
theorem Cd:∀(xs:List af)(fr:List Bool)(sz:List Int)(j:Nat)(v:Int),fr.length=xs.length->sz.length=xs.length->mix xs (fr.set j true) (sz.set j v)=(mix xs fr sz).set j v
 | [],_,_,_,_,_,_=>by simp [mix]
 |x::xs,f::fs,s::ss,0,v,h1,h2=>by simp [mix]
 |x::xs,f::fs,s::ss,j+1,v,h1,h2=>by simp only [List.set_cons_succ,mix];rw [Cd xs fs ss j v (by simpa using h1) (by simpa using h2)]
 |_::_,[],_,_,_,h,_=>by simp at h
 |_::_,_::_,[],_,_,_,h=>by simp at h
theorem nw:∀(ps:List (Int×Int))(l:List Int),(pJ ps l).length=l.length
 | [],_=>rfl
 |p::ps,l=>by show(pJ ps _).length=_;rw [nw ps];simp
theorem nx:∀(ps:List Int)(l:List Bool),(o4 ps l).length=l.length
 | [],_=>rfl
 |p::ps,l=>by show(o4 ps _).length=_;rw [nx ps];simp
theorem zx(xs:List af):∀(ps:List (Int×Int))(fr:List Bool)(sz:List Int),fr.length=xs.length->sz.length=xs.length->mix xs (o4 (ps.map (·.1)) fr) (pJ ps sz)=pJ ps (mix xs fr sz)
 | [],_,_,_,_=>rfl
 |p::ps,fr,sz,h1,h2=>by
  show mix xs (o4 (ps.map (·.1)) (fr.set p.1.toNat true)) (pJ ps (sz.set p.1.toNat p.2))=pJ ps ((mix xs fr sz).set p.1.toNat p.2)
  rw [zx xs ps _ _ (by simpa using h1) (by simpa using h2),Cd xs fr sz _ _ h1 h2]
theorem zy:∀(xs:List af)(fr:List Bool)(sz:List Int)(i:Int),fr.length=xs.length->sz.length=xs.length->fre i fr=[]->mix xs fr sz=sz
 | [],_,[],_,_,_,_=>rfl
 | [],_,_::_,_,_,h,_=>by simp at h
 |x::xs,f::fs,s::ss,i,h1,h2,h3=>by
  simp only [fre]at h3
  cases f with
  |false=>simp at h3
  |true=>
   simp only [if_true]at h3
   simp only [mix,if_true]
   rw [zy xs fs ss (i+1) (by simpa using h1) (by simpa using h2) h3]
 |_::_,[],_,_,h,_,_=>by simp at h
 |_::_,_::_,[],_,_,h,_=>by simp at h
theorem ig:∀(fr:List Bool)(i:Int),0<=i->∀j∈fre i fr,i<=j/\j<i+fr.length/\fr[(j-i).toNat]? =some false
 | [],_,_,j,h=>by simp [fre]at h
 |f::fs,i,h0,j,h=>by
  have ha:j∈fre (i+1) fs->i<=j/\j<i+(f::fs).length/\(f::fs)[(j-i).toNat]? =some false:=fun h=>by
   have:=ig fs (i+1) (by omega) j h
   simp only [zqx]
   refine⟨by omega,by omega,?_⟩
   rw [show(j-i).toNat=(j-(i+1)).toNat+1 by omega]
   exact this.2.2
  simp only [fre]at h
  cases f with
  |true=>exact ha (by simpa using h)
  |false=>
   simp only [Bool.false_eq_true,if_false,List.mem_cons]at h
   rcases h with rfl|h
   ·exact⟨Int.le_refl _,by simp;omega,by simp⟩
   ·exact ha h
theorem vN:∀(fr:List Bool)(i:Int),0<=i->(fre i fr).Pairwise (·< ·)
 | [],_,_=> .nil
 |f::fs,i,h0=>by
  simp only [fre]
  cases f with
  |true=>simpa using vN fs (i+1) (by omega)
  |false=>
   simp only [Bool.false_eq_true,if_false]
   exact .cons (fun j hj=>by have:=ig fs (i+1) (by omega) j hj;omega) (vN fs (i+1) (by omega))
theorem BI{ps qs:List (Int×Int)}(hp:ps.Perm qs):(ps.Pairwise fun a b=>a.1.toNat≠b.1.toNat)->∀l,pJ ps l=pJ qs l:=by
 induction hp with
 |nil=>intro _ _;rfl
 |cons x _ ih=>intro h l;cases h with|cons h1 h2=>exact ih h2 _
 |swap x y l0=>
  intro h l
  cases h with
  |cons h1 h2=>
   have hb:y.1.toNat≠x.1.toNat:=h1 x (by simp)
   show pJ l0 ((l.set _ _).set _ _)=pJ l0 ((l.set _ _).set _ _)
   rw [List.set_comm _ _ hb]
 |trans h1 _ ih1 ih2=>intro h l;rw [ih1 h l,ih2 (h1.pairwise h fun ha=>Ne.symm ha) l]
theorem BK{ps qs:List Int}(hp:ps.Perm qs):∀l,o4 ps l=o4 qs l:=by
 induction hp with
 |nil=>intro _;rfl
 |cons x _ ih=>intro l;exact ih _
 |swap x y l0=>
  intro l
  show o4 l0 ((l.set _ _).set _ _)=o4 l0 ((l.set _ _).set _ _)
  by_cases h:x.toNat=y.toNat
  ·rw [h]
  ·rw [List.set_comm _ _ (Ne.symm h)]
 |trans h1 _ ih1 ih2=>intro l;rw [ih1,ih2]
theorem yL{α β:Type}(p q:α->Bool)(f g:α->β):∀(l:List α),((l.filter p).map f++(l.filter fun a=> !p a&&q a).map g).Perm (l.filterMap fun a=>if p a then some (f a)else if q a then some (g a)else none)
 | []=> .nil
 |a::l=>by
  have ih:=yL p q f g l
  simp only [List.filter_cons,List.filterMap_cons]
  cases p a with
  |true=>simpa using ih
  |false=>
   cases q a with
   |true=>simp only [Bool.false_eq_true,if_false,Bool.not_false,Bool.and_self,if_true,zqA];exact(List.perm_middle).trans (.cons _ ih)
   |false=>simpa using ih
structure ItB(x:af):Prop where
 b0:0<=x.base
 b1:x.base<=1048576
 l0:0<=x.least
 l1:x.least<=1048576
 m0: -1<=x.most
 m1:x.most<=1048576
 g0:0<=x.grow
 g1:x.grow<=1000
 s0:0<=x.shrink
 s1:x.shrink<=1000
 f0: -1048576<=x.before
 f1:x.before<=1048576
 h0: -1048576<=x.behind
 h1:x.behind<=1048576
theorem ItB.of{x:af}(h:td x=true):ItB x:=by
 simp only [td,rng,zqs,zqp]at h
 constructor<;>omega
variable {xs:List af}
theorem ff(h:ep xs=true):(∀x∈xs,ItB x)/\xs.length<=12:=by
 simp only [ep,zqs,zqp,zqf]at h
 exact⟨fun x hx=> .of (h.1 x hx),by omega⟩
theorem Cw(h:∀x∈xs,ItB x)(i:Int):ItB (itA xs i):=by
 unfold itA
 cases hx:xs[i.toNat]? with
 |none=>constructor<;>decide
 |some x=>exact h x (zqd hx)
theorem uc{a b A B:Int}(h0:0<=a)(h1:a<=A)(h2:0<=b)(h3:b<=B):0<=a*b/\a*b<=A*B:=⟨Int.mul_nonneg h0 h2,Int.mul_le_mul h1 h3 h2 (by omega)⟩
theorem HS{a b A B:Int}(h0: -A<=a)(h1:a<=A)(h2:0<=b)(h3:b<=B): -(A*B)<=a*b/\a*b<=A*B:=by
 have hA:0<=A:=by omega
 rcases Int.le_total 0 a with h|h
 ·have:=uc h h1 h2 h3
  have:=Int.mul_nonneg hA (show 0<=B by omega)
  omega
 ·have:=uc (show 0<= -a by omega) (show-a<=A by omega) h2 h3
  rw [Int.neg_mul]at this
  have:=Int.mul_nonneg hA (show 0<=B by omega)
  omega
theorem EU{x:af}(h:ItB x)(gr:Bool):0<=wgt gr x/\wgt gr x<=1048576000/\(gr=false->wgt gr x=x.shrink*x.base):=by
 obtain⟨h1,h2⟩:=uc h.s0 h.s1 h.b0 h.b1
 have:=h.g0
 have:=h.g1
 cases gr with
 |true=>exact⟨by simp only [wgt,if_true];omega,by simp only [wgt,if_true];omega,fun h=>by cases h⟩
 |false=>
  simp only [wgt,Bool.false_eq_true,if_false]
  have:wrap64 (x.shrink*x.base)=x.shrink*x.base:=by unfold wrap64;omega
  rw [this];omega
theorem xI:∀(ws:List Int)(a:Int)(k:Nat),(∀w∈ws,-144115188075855872<=w/\w<=144115188075855872)-> -(144115188075855872*(k:Int))<=a->a<=144115188075855872*(k:Int)->k+ws.length<=24->oZ a ws=a+ws.sum
 | [],a,k,_,_,_,_=>by simp [oZ]
 |w::ws,a,k,h,h0,h1,h2=>by
  have hw:=h w (by simp)
  simp only [zqx]at h2
  have hk:(k:Int)<=23:=by omega
  have e:wrap64 (a+w)=a+w:=by unfold wrap64;omega
  rw [oZ,e,xI ws (a+w) (k+1) (fun x hx=>h x (by simp [hx])) (by omega) (by omega) (by omega),List.sum_cons]
  omega
theorem E6:∀(ws:List Int),(∀w∈ws,0<=w/\w<=1048576000)->0<=ws.sum/\ws.sum<=1048576000*(ws.length:Int)
 | [],_=>by simp
 |w::ws,h=>by
  have:=E6 ws (fun x hx=>h x (by simp [hx]))
  have:=h w (by simp)
  simp only [List.sum_cons,zqx]
  omega
theorem j7:∀(fr:List Bool)(i:Int),(fre i fr).length<=fr.length
 | [],_=>by simp [fre]
 |f::fs,i=>by
  have:=j7 fs (i+1)
  cases f<;>simp [fre]<;>omega
section
variable {X:Fx}(hX:ep X.xs = true)
include hX
theorem Fx.ws_bd(fr:List Bool):∀w∈X.ws fr,0<=w/\w<=1048576000:=by
 intro w hw
 simp only [Fx.ws,List.mem_map]at hw
 obtain⟨i,_,rfl⟩:=hw
 have:=EU (Cw (ff hX).1 i) X.gr
 omega
variable {fr:List Bool}
theorem Fx.all_eq(hf:fr.length=X.xs.length):X.all fr=(X.ws fr).sum/\0<=X.all fr/\X.all fr<=12582912000:=by
 have h1:=X.ws_bd hX fr
 have h2:=E6 _ h1
 have h3:=(ff hX).2
 have h4:(X.ws fr).length<=12:=by have:=j7 fr 0;simp only [Fx.ws,zql];omega
 have e:X.all fr=(X.ws fr).sum:=by
  rw [Fx.all,xI _ 0 0 (fun w hw=>by have:=h1 w hw;omega) (by omega) (by omega) (by omega)];omega
 rw [e];omega
theorem Fx.shr_len(hf:fr.length=X.xs.length)(rest:Int):(shr rest (X.ws fr)).length=(fre 0 fr).length:=by
 have h1:=X.ws_bd hX fr
 have h3:=(ff hX).2
 have h4:(X.ws fr).length<=12:=by have:=j7 fr 0;simp only [Fx.ws,zql];omega
 have:Bl (X.ws fr)=true:=by
  simp only [Bl,rng,zqs,zqp,zqf]
  exact⟨fun w hw=>by have:=h1 w hw;omega,by omega⟩
 rw [shr,if_pos this,xN]
 simp [Fx.ws]
end
theorem wS{x:af}(h:ItB x)(gr:Bool){A rest:Int}(h0:0<=A)(h1:A<=12582912000)(h2: -1048576<=rest)(h3:rest<=1048576):
  (qr gr A rest x=true↔0<ovr gr A rest x)/\((!qr gr A rest x&&vK gr A rest x)=true↔ovr gr A rest x<0)/\(-144115188075855872<=ovr gr A rest x/\ovr gr A rest x<=144115188075855872)/\
  (vK gr A rest x=true->ww x=qE x)/\∀v:Int,-9223372036854775808<=v->v<=9223372036854775807->wc gr A rest v x=wrap64 (v+ovr gr A rest x):=by
 have hw:=EU h gr
 obtain⟨b1,b2⟩:=uc h.b0 h.b1 h0 h1
 obtain⟨c1,c2⟩:=uc h.l0 h.l1 h0 h1
 obtain⟨d1,d2⟩:=HS h2 h3 hw.1 hw.2.1
 have hg:0<=qE x:=by have:=h.l0;unfold qE;split<;>omega
 have hh:qE x<=1048576:=by have:=h.l1;have:=h.m1;unfold qE;split<;>omega
 obtain⟨e1,e2⟩:=uc hg hh h0 h1
 have et:tgt gr A rest x=x.base*A+rest*wgt gr x:=by
  unfold tgt
  rw [show wrap64 (x.base*A)=x.base*A by unfold wrap64;omega,show wrap64 (rest*wgt gr x)=rest*wgt gr x by unfold wrap64;omega]
  unfold wrap64;omega
 have el:wrap64 (x.least*A)=x.least*A:=by unfold wrap64;omega
 have eu:wrap64 (qE x*A)=qE x*A:=by unfold wrap64;omega
 have hf:0<=x.most->ww x=qE x:=fun hm=>by unfold ww qE;split<;>split<;>omega
 obtain⟨t,ht⟩:=nmE (tgt gr A rest x)
 have hj: -14000000000000000<=t:=by rw [ht,et];omega
 have hk:t<=16000000000000000:=by rw [ht,et];omega
 obtain⟨lo,he⟩:=nmE (x.least*A)
 obtain⟨hi,hd⟩:=nmE (qE x*A)
 have ha:qr gr A rest x=decide (t<lo):=by unfold qr;rw [el,<-ht,<-he]
 have hc:vK gr A rest x=(decide (0<=x.most)&&decide (hi<t)):=by unfold vK;rw [eu,<-ht,<-hd]
 have hb:ovr gr A rest x=if t<lo then lo-t else if 0<=x.most/\hi<t then hi-t else 0:=by
  unfold ovr
  rw [ha,el,<-ht,<-he]
  simp only [zqp]
  by_cases h1:t<lo
  ·rw [if_pos h1,if_pos h1];unfold wrap64;omega
  ·rw [if_neg h1,if_neg h1]
   by_cases hm:0<=x.most
   ·rw [hf hm,eu,<-hd]
    by_cases h2:hi<t
    ·rw [if_pos ⟨hm,h2⟩,if_pos ⟨hm,h2⟩];unfold wrap64;omega
    ·rw [if_neg (by omega),if_neg (by omega)]
   ·rw [if_neg (by omega),if_neg (by omega)]
 refine⟨?_,?_,?_,?_,?_⟩
 ·rw [ha,hb,zqp];split<;>(try split)<;>omega
 ·rw [ha,hc,hb]
  simp only [zqs,Bool.not_eq_true',zqp,zqo]
  split<;>(try split)<;>omega
 ·rw [hb];split<;>(try split)<;>omega
 ·rw [hc];simp only [zqs,zqp];exact fun h=>hf h.1
 ·intro v v0 v1
  unfold wc
  rw [ha,hc,hb,el,eu,<-ht,<-he,<-hd]
  simp only [zqs,zqp]
  split
  ·unfold wrap64;omega
  ·split
   ·unfold wrap64;omega
   ·unfold wrap64;omega
theorem EW{gr:Bool}{A rest:Int}(h0:0<=A)(h1:A<=12582912000)(h2: -1048576<=rest)(h3:rest<=1048576){xs:List af}(hx:∀x∈xs,ItB x):∀(is:List Int)(v:Int)(k:Nat),-(144115188075855872*(k:Int))<=v->v<=144115188075855872*(k:Int)->k+is.length<=24->
  is.foldl (fun v i=>wc gr A rest v (itA xs i)) v=v+(is.map fun i=>ovr gr A rest (itA xs i)).sum
 | [],v,k,_,_,_=>by simp
 |i::is,v,k,g0,g1,g2=>by
  obtain⟨_,_,hb,_,hv⟩:=wS (Cw hx i) gr h0 h1 h2 h3
  simp only [zqx]at g2
  have hk:(k:Int)<=23:=by omega
  rw [List.foldl_cons,hv v (by omega) (by omega)]
  have e:wrap64 (v+ovr gr A rest (itA xs i))=v+ovr gr A rest (itA xs i):=by unfold wrap64;omega
  rw [e,EW h0 h1 h2 h3 hx is _ (k+1) (by omega) (by omega) (by omega),zqA,List.sum_cons]
  omega
theorem HA(n:Int): -1048576<=sg n/\sg n<=1048576:=by unfold sg bro;split<;>(try split)<;>omega
theorem Fd(xs:List af)(ss:List Int)(gap inner:Int)(gr:Bool): -1048576<=wg xs ss gap inner gr/\wg xs ss gap inner gr<=1048576:=by
 simp only [wg]
 split
 ·omega
 ·exact HA _
theorem Bw:∀(l:List Int),(∀x∈l,x<=0)->l.sum<=0/\((∃x∈l,x<0)->l.sum<0)
 | [],_=>by simp
 |x::l,h=>by
  obtain⟨h1,h2⟩:=Bw l (fun y hy=>h y (by simp [hy]))
  have:=h x (by simp)
  simp only [List.sum_cons]
  refine⟨by omega,fun⟨y,hy,hn⟩=> ?_⟩
  rcases List.mem_cons.1 hy with rfl|hy
  ·omega
  ·have:=h2 ⟨y,hy,hn⟩;omega
theorem Bu:∀(l:List Int),(∀x∈l,0<=x)->0<=l.sum/\((∃x∈l,0<x)->0<l.sum)
 | [],_=>by simp
 |x::l,h=>by
  obtain⟨h1,h2⟩:=Bu l (fun y hy=>h y (by simp [hy]))
  have:=h x (by simp)
  simp only [List.sum_cons]
  refine⟨by omega,fun⟨y,hy,hn⟩=> ?_⟩
  rcases List.mem_cons.1 hy with rfl|hy
  ·omega
  ·have:=h2 ⟨y,hy,hn⟩;omega
theorem qy{α β:Type}{f g:α->Option β}:∀{l:List α},(∀a∈l,f a=g a)->l.filterMap f=l.filterMap g
 | [],_=>rfl
 |a::l,h=>by simp only [List.filterMap_cons];rw [h a (by simp),qy fun b hb=>h b (by simp [hb])]
theorem Fx.keys_sub(X:Fx)(fr:List Bool)(rest:Int):((X.setS fr rest).map (·.1)).Sublist (fre 0 fr):=by
 have ha:∀(l:List Int)(q:List (Int×Int))(F:Int×Int×Int->Option (Int×Int)),(∀p r,F p=some r->r.1=p.1)->(((l.zip q).filterMap F).map (·.1)).Sublist l:=by
  intro l
  induction l with
  |nil=>intro q F _;simp
  |cons a l ih=>
   intro q F hF
   cases q with
   |nil=>simp
   |cons b q=>
    simp only [List.zip_cons_cons,List.filterMap_cons]
    cases hb:F (a,b)with
    |none=>exact(ih q F hF).cons _
    |some r=>
     simp only [zqA]
     rw [hF _ _ hb]
     exact(ih q F hF).cons_cons _
 refine ha _ _ _ fun p r hp=> ?_
 split at hp
 ·cases hp;rfl
 ·split at hp
  ·cases hp;rfl
  ·split at hp
   ·cases hp;rfl
   ·cases hp
section
variable {X:Fx}(hX:ep X.xs = true){fr:List Bool}(hf:fr.length = X.xs.length){rest:Int}(hr0:-1048576 <= rest)(hr1:rest <= 1048576)
include hX hf hr0 hr1
theorem Fx.facts(i:Int):(qr X.gr (X.all fr) rest (itA X.xs i)=true↔0<ovr X.gr (X.all fr) rest (itA X.xs i))/\((!qr X.gr (X.all fr) rest (itA X.xs i)&&vK X.gr (X.all fr) rest (itA X.xs i))=true↔ovr X.gr (X.all fr) rest (itA X.xs i)<0)/\
  (-144115188075855872<=ovr X.gr (X.all fr) rest (itA X.xs i)/\ovr X.gr (X.all fr) rest (itA X.xs i)<=144115188075855872)/\(vK X.gr (X.all fr) rest (itA X.xs i)=true->ww (itA X.xs i)=qE (itA X.xs i))/\
  ∀v:Int,-9223372036854775808<=v->v<=9223372036854775807->wc X.gr (X.all fr) rest v (itA X.xs i)=wrap64 (v+ovr X.gr (X.all fr) rest (itA X.xs i)):=wS (Cw (ff hX).1 i) X.gr (X.all_eq hX hf).2.1 (X.all_eq hX hf).2.2 hr0 hr1
theorem Fx.ovs_eq:oZ 0 (X.ovs fr rest)=(X.ovs fr rest).sum/\X.vio fr rest=(X.ovs fr rest).sum:=by
 have h3:=(ff hX).2
 have h4:=j7 fr 0
 constructor
 ·rw [xI _ 0 0 (fun w hw=> ?_) (by omega) (by omega) (by simp only [Fx.ovs,zql];omega)]
  ·omega
  ·simp only [Fx.ovs,List.mem_map]at hw
   obtain⟨i,_,rfl⟩:=hw
   exact(X.facts hX hf hr0 hr1 i).2.2.1
 ·rw [Fx.vio,EW (X.all_eq hX hf).2.1 (X.all_eq hX hf).2.2 hr0 hr1 (ff hX).1 _ 0 0 (by omega) (by omega) (by omega),Fx.ovs]
  omega
theorem Fx.some_iff:((X.ovs fr rest).any fun o=>o !=0)=false↔(X.low fr rest=[]/\X.hig fr rest=[]):=by
 rw [List.any_eq_false]
 simp only [Fx.ovs,Fx.low,Fx.hig,List.mem_map,bne_iff_ne,ne_eq,Decidable.not_not,List.filter_eq_nil_iff]
 constructor
 ·intro h
  refine⟨fun i hi hl=> ?_,fun i hi hl=> ?_⟩
  ·have:=(X.facts hX hf hr0 hr1 i).1.1 hl
   have:=h _ ⟨i,hi,rfl⟩
   omega
  ·have:=(X.facts hX hf hr0 hr1 i).2.1.1 hl
   have:=h _ ⟨i,hi,rfl⟩
   omega
 ·rintro⟨h1,h2⟩ o ⟨i,hi,rfl⟩
  have f:=X.facts hX hf hr0 hr1 i
  rcases Int.lt_trichotomy (ovr X.gr (X.all fr) rest (itA X.xs i)) 0 with h|h|h
  ·exact absurd (f.2.1.2 h) (h2 i hi)
  ·exact h
  ·exact absurd (f.1.2 h) (h1 i hi)
theorem Fx.set_perm:(X.setI fr rest).Perm (X.setS fr rest):=by
 obtain⟨hg,hh⟩:=X.ovs_eq hX hf hr0 hr1
 have ha:=X.shr_len hX hf rest
 obtain⟨sh,hb⟩:=nmE (shr rest (X.ws fr))
 rw [<-hb]at ha
 unfold Fx.setI
 split
 ·rename_i h
  have hd:=(X.some_iff hX hf hr0 hr1).2 h
  simp only [Fx.setS,Fx.shs,hd,if_true,<-hb]
  have he:∀(l:List Int)(o s:List Int),o.length=l.length->s.length=l.length->(l.zip s).map (fun p=>(p.1,cl (wrap64 ((itA X.xs p.1).base+p.2))))=(l.zip (o.zip s)).filterMap fun p=>some (p.1,cl (wrap64 ((itA X.xs p.1).base+p.2.2))):=by
   intro l
   induction l with
   |nil=>intro o s _ _;simp
   |cons a l ih=>
    intro o s h1 h2
    match o,s,h1,h2 with
    |o0::o,s0::s,h1,h2=>simp only [List.zip_cons_cons,zqA,List.filterMap_cons];rw [ih o s (by simpa using h1) (by simpa using h2)]
    | [],_,h1,_=>simp at h1
    |_::_,[],_,h2=>simp at h2
  rw [he (fre 0 fr) (X.ovs fr rest) sh (by simp [Fx.ovs]) ha]
 ·rename_i h
  have hd:((X.ovs fr rest).any fun o=>o !=0)=true:=by
   cases hc:(X.ovs fr rest).any fun o=>o !=0
   ·exact absurd ((X.some_iff hX hf hr0 hr1).1 hc) h
   ·rfl
  simp only [Fx.setS,hd,<-hb]
  rw [hg,<-hh]
  have he:∀(l:List Int)(s:List Int)(F:Int->Int->Option (Int×Int))(G:Int->Int),s.length=l.length->(l.zip ((l.map G).zip s)).filterMap (fun p=>F p.1 p.2.1)=l.filterMap fun i=>F i (G i):=by
   intro l
   induction l with
   |nil=>intro s F G _;simp
   |cons a l ih=>
    intro s F G h1
    match s,h1 with
    |s0::s,h1=>simp only [zqA,List.zip_cons_cons,List.filterMap_cons];rw [ih s F G (by simpa using h1)]
    | [],h1=>simp at h1
  have k2:=he (fre 0 fr) sh (fun i o=>if 0<o/\0<=X.vio fr rest then some (i,(itA X.xs i).least)else if o<0/\X.vio fr rest<=0 then some (i,ww (itA X.xs i))else none) (fun i=>ovr X.gr (X.all fr) rest (itA X.xs i)) ha
  simp only [Bool.true_eq_false,if_false]
  rw [show X.ovs fr rest=(fre 0 fr).map fun i=>ovr X.gr (X.all fr) rest (itA X.xs i)from rfl,k2]
  have tp:=yL (fun i=>qr X.gr (X.all fr) rest (itA X.xs i)) (fun i=>vK X.gr (X.all fr) rest (itA X.xs i)) (fun i=>(i,(itA X.xs i).least)) (fun i=>(i,qE (itA X.xs i))) (fre 0 fr)
  rcases Int.lt_trichotomy (X.vio fr rest) 0 with hv|hv|hv
  ·rw [if_neg (by omega),if_pos (by omega),List.nil_append,Fx.hig]
   refine .of_eq ?_
   rw [<-List.filterMap_eq_map,List.filterMap_filter]
   refine qy fun i hi=> ?_
   obtain⟨f1,f2,_,f4,_⟩:=X.facts hX hf hr0 hr1 i
   clear k2 tp he hb hd h ha hg hh
   grind
  ·rw [if_pos (by omega),if_pos (by omega)]
   refine tp.trans (.of_eq (qy fun i hi=> ?_))
   obtain⟨f1,f2,_,f4,_⟩:=X.facts hX hf hr0 hr1 i
   clear k2 tp he hb hd h ha hg hh
   grind
  ·rw [if_pos (by omega),if_neg (by omega),List.append_nil,Fx.low]
   refine .of_eq ?_
   rw [<-List.filterMap_eq_map,List.filterMap_filter]
   refine qy fun i hi=> ?_
   obtain⟨f1,f2,_,f4,_⟩:=X.facts hX hf hr0 hr1 i
   clear k2 tp he hb hd h ha hg hh
   grind
theorem Fx.keys_ne(hne:fre 0 fr≠[]):X.setI fr rest≠[]:=by
 obtain⟨hh,hj⟩:=X.ovs_eq hX hf hr0 hr1
 have hd:=X.shr_len hX hf rest
 unfold Fx.setI
 split
 ·rename_i h
  intro hc
  rw [Fx.shs,List.map_eq_nil_iff]at hc
  have:(List.zip (fre 0 fr) (shr rest (X.ws fr))).length=0:=by rw [hc];rfl
  rw [zqB,hd,Nat.min_self]at this
  exact hne (zqv this)
 ·rename_i h
  intro hc
  rw [List.append_eq_nil_iff]at hc
  obtain⟨he,hg⟩:=hc
  have hb:0<=X.vio fr rest->X.low fr rest=[]:=fun hv=>by rw [if_pos hv]at he;simpa using he
  have ha:X.vio fr rest<=0->X.hig fr rest=[]:=fun hv=>by rw [if_pos hv]at hg;simpa using hg
  rcases Int.lt_trichotomy (X.vio fr rest) 0 with hv|hv|hv
  ·have h1:=ha (by omega)
   have:0<=(X.ovs fr rest).sum:=(Bu _ fun o ho=>by
    simp only [Fx.ovs,List.mem_map]at ho
    obtain⟨i,hi,rfl⟩:=ho
    have f:=X.facts hX hf hr0 hr1 i
    have hn:¬ovr X.gr (X.all fr) rest (itA X.xs i)<0:=fun hc=>by
     have:=f.2.1.2 hc
     have hm:i∈X.hig fr rest:=by rw [Fx.hig,List.mem_filter];exact⟨hi,this⟩
     rw [h1]at hm;cases hm
    omega).1
   omega
  ·exact h ⟨hb (by omega),ha (by omega)⟩
  ·have h1:=hb (by omega)
   have:(X.ovs fr rest).sum<=0:=(Bw _ fun o ho=>by
    simp only [Fx.ovs,List.mem_map]at ho
    obtain⟨i,hi,rfl⟩:=ho
    have f:=X.facts hX hf hr0 hr1 i
    have hn:¬0<ovr X.gr (X.all fr) rest (itA X.xs i):=fun hc=>by
     have:=f.1.2 hc
     have hm:i∈X.low fr rest:=by rw [Fx.low,List.mem_filter];exact⟨hi,this⟩
     rw [h1]at hm;cases hm
    omega).1
   omega
end
theorem yr:∀(fr:List Bool)(i j:Int),0<=i->(fre i (fr.set (j-i).toNat true)).length<=(fre i fr).length/\(j∈fre i fr->(fre i (fr.set (j-i).toNat true)).length<(fre i fr).length)
 | [],_,_,_=>by simp [fre]
 |f::fs,i,j,h0=>by
  by_cases hj:j<=i
  ·rw [show(j-i).toNat=0 by omega,List.set_cons_zero]
   have hb:∀k∈fre (i+1) fs,i<k:=fun k hk=>by have:=ig fs (i+1) (by omega) k hk;omega
   cases f with
   |true=>
    simp only [fre,if_true]
    exact⟨Nat.le_refl _,fun hm=>by have:=hb j hm;omega⟩
   |false=>simp only [fre,if_true,Bool.false_eq_true,if_false,zqx];exact⟨by omega,fun _=>by omega⟩
  ·obtain⟨hc,ha⟩:=yr fs (i+1) j (by omega)
   rw [show(j-i).toNat=(j-(i+1)).toNat+1 by omega,List.set_cons_succ]
   cases f with
   |true=>simp only [fre,if_true];exact⟨hc,ha⟩
   |false=>
    simp only [fre,Bool.false_eq_true,if_false,zqx,List.mem_cons]
    refine⟨by omega,fun hm=> ?_⟩
    rcases hm with hm|hm
    ·omega
    ·have:=ha hm;omega
theorem zL:∀(is:List Int)(fr:List Bool),(fre 0 (o4 is fr)).length<=(fre 0 fr).length
 | [],_=>Nat.le_refl _
 |i::is,fr=>by
  have h1:=zL is (fr.set i.toNat true)
  have h2:=(yr fr 0 i (by omega)).1
  rw [Int.sub_zero]at h2
  exact Nat.le_trans h1 h2
section
variable {X:Fx}(hX:ep X.xs = true)
include hX
theorem Fx.run_eq:∀(k:Nat)(sz:List Int)(fr:List Bool),fr.length=X.xs.length->sz.length=X.xs.length->X.runS k (mix X.xs fr sz) fr=X.runI k sz fr
 |0,_,_,_,_=>rfl
 |k+1,sz,fr,h1,h2=>by
  unfold Fx.runS Fx.runI
  by_cases hn:fre 0 fr=[]
  ·rw [if_pos hn,if_pos hn,zy _ _ _ 0 h1 h2 hn]
  ·rw [if_neg hn,if_neg hn]
   have hr:X.rI fr sz=wg X.xs (mix X.xs fr sz) X.gap X.inner X.gr:=rfl
   obtain⟨r,hc⟩:=nmE (wg X.xs (mix X.xs fr sz) X.gap X.inner X.gr)
   rw [hr,<-hc]
   have hb:=Fd X.xs (mix X.xs fr sz) X.gap X.inner X.gr
   rw [<-hc]at hb
   have hp:=X.set_perm hX h1 hb.1 hb.2
   have hk:=X.keys_sub fr r
   have hd:(X.setS fr r).Pairwise fun a b=>a.1.toNat≠b.1.toNat:=by
    have:=((vN fr 0 (by omega)).sublist hk)
    rw [List.pairwise_map]at this
    have hm:∀a∈X.setS fr r,0<=a.1:=fun a ha=>(ig fr 0 (by omega) a.1 (hk.mem (List.mem_map.2 ⟨a,ha,rfl⟩))).1
    refine this.imp_of_mem fun{a b} ha hb hab=> ?_
    have:=hm a ha
    have:=hm b hb
    omega
   have e1:∀l,pJ (X.setS fr r) l=pJ (X.setI fr r) l:=fun l=>BI hp.symm hd l
   have e2:o4 ((X.setS fr r).map (·.1)) fr=o4 ((X.setI fr r).map (·.1)) fr:=BK (hp.symm.map _) fr
   rw [e1,e2,<-zx X.xs (X.setI fr r) fr sz h1 h2]
   exact Fx.run_eq k _ _ (by rw [nx];exact h1) (by rw [nw];exact h2)
theorem Fx.run_some:∀(k:Nat)(sz:List Int)(fr:List Bool),fr.length=X.xs.length->(fre 0 fr).length<k->∃r,X.runI k sz fr=some r/\r.length=sz.length
 |0,_,_,_,h=>absurd h (Nat.not_lt_zero _)
 |k+1,sz,fr,h1,h2=>by
  unfold Fx.runI
  by_cases hn:fre 0 fr=[]
  ·rw [if_pos hn];exact⟨sz,rfl,rfl⟩
  ·rw [if_neg hn]
   have hb:=Fd X.xs (mix X.xs fr sz) X.gap X.inner X.gr
   have ha:=X.keys_ne hX h1 hb.1 hb.2 hn
   have hp:=X.set_perm hX h1 hb.1 hb.2
   have hk:=X.keys_sub fr (wg X.xs (mix X.xs fr sz) X.gap X.inner X.gr)
   obtain⟨r,hr⟩:=nmE (X.rI fr sz)
   have he:wg X.xs (mix X.xs fr sz) X.gap X.inner X.gr=r:=hr.symm
   rw [he]at ha hp hk
   rw [<-hr]
   have hf:(fre 0 (o4 ((X.setI fr r).map (·.1)) fr)).length<(fre 0 fr).length:=by
    match hs:X.setI fr r,ha with
    |p::ps,_=>
     rw [hs]at hp
     have hm:p.1∈fre 0 fr:=hk.mem (List.mem_map.2 ⟨p,hp.mem_iff.1 (by simp),rfl⟩)
     have h3:=(yr fr 0 p.1 (by omega)).2 hm
     rw [Int.sub_zero]at h3
     exact Nat.lt_of_le_of_lt (zL (ps.map (·.1)) (fr.set p.1.toNat true)) h3
   obtain⟨q,hc,hd⟩:=Fx.run_some k (pJ (X.setI fr r) sz) (o4 ((X.setI fr r).map (·.1)) fr) (by rw [nx];exact h1) (by omega)
   exact⟨q,hc,by rw [hd,nw]⟩
end
variable {α:Type}
theorem br(c:α->Array Value)(xs:List α)(x:α):vw c (xs++[x])=vw c xs++[lc (c x)]:=by simp [vw]
theorem jx(c:α->Array Value)(xs:List α){y:List AC}(h:y.all dt=true):aB (vw c xs++[y])=true:=by
 have:=aI c xs
 simp only [aB,List.all_append,zqD,List.all_nil,h,Bool.and_true]at this⊢
 exact this
theorem aO(c:α->Array Value)(xs:List α):aN (vw c xs)=(xs.length:Int):=by rw [ah,ar]
theorem qd(ws:List Int)(hl:ws.length<=1048576):PC0 307 [.c (.view (vw aj ws))] (.t (abl (Bl ws))):=by
 obtain⟨V,hV⟩:=nmE (vw aj ws)
 have hd:=lmV hV
 have iV:=imV hV
 have kV:=kmV (k:=1) hV fun _=>rfl
 have dV:=dmV hV
 have hb:aN V=(ws.length:Int):=by rw [hV,aO]
 rw [<-hV]
 refine ad (aM f307) ay func307 fun g F hg hF=> ?_
 cbv
 refine aY hg ay (by kernel_rfl) V (fun x=>lc (aj x)) ws hV hl (fun z(s:Unit)=>[(0,.v V),(5,.v V),(6,.i (g .ln V)),(7,.i (z))]) (fun z(s:Unit)=>[]) (fun z(s:Unit)=>True) (fun(s:Unit) rest=>rest.all (fun w=>rng w 0 1073741824)&&decide ((ws.length:Int)<=64)) (Bl ws) () rfl trivial (Wk.weak (wkG [] zr4 trivial (by decide) aG)) (fun z s B hz h0 hi he=> ?_) (fun z s x rest B z0 z1 z2 hx hy h0 hi hc e1 hB=> ?_)
 ·cbv;rw [he];cbv
  exact bk hF (by rw [iR hg,bz hg,hb,<-h0];rfl)
 ·cbv;rw [hc];cbv;refine goX hg _ z0 hy rfl ?_;cbv
  repeat'(first|(refine bv hg (bR _ _ _) rfl (fun R0 ha=> ?_);cases R0<;>cbv))
  ·exact bk hF (by rw [<-h0,zqD,<-ha];rfl)
  ·rw [e1]
   exact hB (()) _ _ ⟨by rw [<-h0,zqD,<-ha];rfl,trivial⟩ (Wk.weak (wkG [] zr4 trivial (by decide) aG))
theorem pv(ws:List Int)(hl:ws.length<=1048576):PC0 305 [.c (.view (vw aj ws))] (.t (abl (Bl ws))):=by
 obtain⟨V,hV⟩:=nmE (vw aj ws)
 have hd:=lmV hV
 have iV:=imV hV
 have kV:=kmV (k:=1) hV fun _=>rfl
 have dV:=dmV hV
 have hb:aN V=(ws.length:Int):=by rw [hV,aO]
 rw [<-hV]
 refine ad (aM f305) ay func305 fun g F hg hF=> ?_
 cbv
 refine aY hg ay (by kernel_rfl) V (fun x=>lc (aj x)) ws hV hl (fun z(s:Unit)=>[(0,.v V),(3,.i (z))]) (fun z(s:Unit)=>[]) (fun z(s:Unit)=>True) (fun(s:Unit) rest=>rest.all (fun w=>rng w 0 1073741824)&&decide ((ws.length:Int)<=64)) (Bl ws) () rfl trivial (Wk.weak (wkG [] zr2 trivial (by decide) aG)) (fun z s B hz h0 hi he=> ?_) (fun z s x rest B z0 z1 z2 hx hy h0 hi hc e1 hB=> ?_)
 ·cbv;rw [he];cbv
  exact bk hF (by rw [iR hg,bz hg,hb,<-h0];rfl)
 ·cbv;rw [hc];cbv;refine goX hg _ z0 hy rfl ?_;cbv
  repeat'(first|(refine bv hg (bi _ _ _) rfl (fun R0 ha=> ?_);cases R0<;>cbv))
  ·exact bk hF (by rw [<-h0,zqD,<-ha];rfl)
  ·rw [e1]
   exact hB (()) _ _ ⟨by rw [<-h0,zqD,<-ha];rfl,trivial⟩ (Wk.weak (wkG [] zr2 trivial (by decide) aG))
theorem nU(n:Int)(ws:List Int)(hl:ws.length<=1048576):da prog 299 [ai n,.c (.view (vw aj ws))] fun res hd=>res= .o 0/\hd=[⟨3,1,vw aj (shr n ws)⟩]:=by
 have cw:=qd ws hl
 obtain⟨V,hV⟩:=nmE (vw aj ws)
 have hn:=lmV hV
 have iV:=imV hV
 have kV:=kmV (k:=1) hV fun _=>rfl
 have dV:=dmV hV
 obtain⟨GV,ha⟩:=nmE (vw aj (shr n ws))
 obtain⟨A,hA⟩:=nmE (oZ 0 ws)
 obtain⟨w,hw⟩:=nmE (Bl ws)
 rw [<-hV,<-hw]at cw
 rw [<-hV,<-ha]
 refine ad (aM f299) ay func299 fun g F hg hF=> ?_
 cbv
 repeat'(first|(refine bv hg cw rfl (fun R0 hb=> ?_);cases R0<;>cbv))
 ·have e:GV=[]:=by rw [ha,shr,if_neg (by rw [<-hw,<-hb];simp)];rfl
  subst e
  exact CL _ _ hF ⟨rfl,rfl⟩
 repeat'(refine bm hg (bZ _) rfl (fun R0 hb=> ?_);cbv)
 have hG:shr n ws=shG R0 A 0 ws:=by rw [shr,if_pos (by rw [<-hw];simp_all),hA];simp_all
 refine aY hg ay (by kernel_rfl) V (fun x=>lc (aj x)) ws hV hl (fun z(s:Int)=>[(0,.i (R0)),(1,.v V),(5,.i (s)),(17,.v V),(18,.i (g .ln V)),(19,.i (z))]) (fun z(s:Int)=>[]) (fun z(s:Int)=>True) (fun(s:Int) rest=>oZ s rest) (A) 0 hA.symm trivial (Wk.weak (wkG [] zr6 trivial (by decide) aG)) (fun z s B hz h0 hi he=> ?_) (fun z s x rest B z0 z1 z2 hx hy h0 hi hc e1 hB=> ?_)
 rotate_left
 ·cbv;rw [hc];cbv;refine goX hg _ z0 hy rfl ?_;cbv
  rw [e1,aJ hg]
  exact hB (_) _ _ ⟨h0,trivial⟩ (Wk.weak (wkG [] zr6 trivial (by decide) aG))
 cbv;rw [he];cbv
 obtain rfl:A=s:=h0.symm
 refine aY hg ay (by kernel_rfl) V (fun x=>lc (aj x)) ws hV hl (fun z(s:Int×List Int×LLA)=>[(0,.i (R0)),(5,.i (A)),(8,.o 0),(9,.i (s.1)),(27,.v V),(28,.i (g .ln V)),(29,.i (z))]) (fun z(s:Int×List Int×LLA)=>[.rw ⟨3,1,s.2.2⟩]) (fun z(s:Int×List Int×LLA)=>s.2.2=vw aj s.2.1/\(s.2.1.length:Int)=z) (fun(s:Int×List Int×LLA) rest=>s.2.1++shG R0 A s.1 rest) (shr n ws) (0,[],[]) (by simpa using hG.symm) ⟨rfl,rfl⟩ (Wk.weak (wkG [none] zr7 ⟨⟨_,rfl,rfl⟩,trivial⟩ (by decide) aG)) (fun z s B hz h0 hi he=> ?_) (fun z s x rest B z0 z1 z2 hx hy h0 hi hc e1 hB=> ?_)
 ·obtain⟨q,hj,es⟩:=s
  obtain⟨i1,i2⟩:=hi
  dsimp only at i1 i2 h0
  cbv;rw [he];cbv
  obtain rfl:es=GV:=by simp only [shG,List.append_nil]at h0;rw [i1,ha,<-h0]
  exact bV hF rfl (by rw [ha];exact aI _ _)
 ·obtain⟨q,hj,es⟩:=s
  obtain⟨i1,i2⟩:=hi
  dsimp only at i1 i2 h0
  have hk:es.length<=1048576:=by rw [i1,ar];omega
  have pe:=pmV i1
  cbv;rw [hc];cbv;refine goX hg _ z0 hy rfl ?_;cbv
  (first|refine bm hg (bJ _ _) rfl (fun Q0 hf=> ?_)|refine aX hg (bJ _ _) rfl (fun Q0 hf=> ?_));cbv
  (first|refine bm hg (bJ _ _) rfl (fun Q1 hh=> ?_)|refine aX hg (bJ _ _) rfl (fun Q1 hh=> ?_));cbv
  refine dz hg rfl (by decide) hk ?_
  cbv
  rw [e1,gW hg]
  have hm:g .w .sub .i64 Q0 Q1=wrap64 (fdv (wrap64 (R0*wrap64 (q+x))) A-fdv (wrap64 (R0*q)) A):=by rw [hf,hh];simp only [aJ hg,gk hg,dp hg]
  rw [hm,aJ hg]
  exact hB ((_,hj++[_],_)) _ _ ⟨(by simpa [shG]using h0),⟨by rw [i1,br];rfl,by simp;omega⟩⟩ (Wk.weak (wkG [some _] zr7 ⟨⟨_,_,rfl,rfl,rfl,rfl,.inl ⟨rfl,by rw [i1];exact jx _ _ rfl⟩⟩,trivial⟩ (by decide) aG))
theorem no(n:Int)(ws:List Int)(hl:ws.length<=1048576):da prog 296 [ai n,.c (.view (vw aj ws))] fun res hd=>res= .o 0/\hd=[⟨3,1,vw aj (shr n ws)⟩]:=by
 have cw:=pv ws hl
 obtain⟨V,hV⟩:=nmE (vw aj ws)
 have hn:=lmV hV
 have iV:=imV hV
 have kV:=kmV (k:=1) hV fun _=>rfl
 have dV:=dmV hV
 obtain⟨GV,hb⟩:=nmE (vw aj (shr n ws))
 obtain⟨A,hA⟩:=nmE (oZ 0 ws)
 obtain⟨w,hw⟩:=nmE (Bl ws)
 rw [<-hV,<-hw]at cw
 rw [<-hV,<-hb]
 refine ad (aM f296) ay func296 fun g F hg hF=> ?_
 cbv
 repeat'(first|(refine bv hg cw rfl (fun R0 ha=> ?_);cases R0<;>cbv))
 ·have e:GV=[]:=by rw [hb,shr,if_neg (by rw [<-hw,<-ha];simp)];rfl
  subst e
  exact bV hF rfl rfl
 refine aY hg ay (by kernel_rfl) V (fun x=>lc (aj x)) ws hV hl (fun z(s:Int)=>[(0,.i (n)),(1,.v V),(5,.o 0),(6,.i (s)),(7,.i (z))]) (fun z(s:Int)=>[.rw ⟨3,1,[]⟩]) (fun z(s:Int)=>True) (fun(s:Int) rest=>oZ s rest) (A) 0 hA.symm trivial (Wk.weak (wkG [some _] zr5 ⟨wqE rfl rfl,trivial⟩ (by decide) aG)) (fun z s B hz h0 hi he=> ?_) (fun z s x rest B z0 z1 z2 hx hy h0 hi hc e1 hB=> ?_)
 rotate_left
 ·cbv;rw [hc];cbv;refine goX hg _ z0 hy rfl ?_;cbv
  rw [e1,aJ hg]
  exact hB (_) _ _ ⟨h0,trivial⟩ (Wk.weak (wkG [some _] zr5 ⟨wqE rfl rfl,trivial⟩ (by decide) aG))
 cbv;rw [he];cbv
 obtain rfl:A=s:=h0.symm
 (first|refine bm hg (bP _) rfl (fun R0 ha=> ?_)|refine aX hg (bP _) rfl (fun R0 ha=> ?_));cbv
 have hG:shr n ws=shG R0 A 0 ws:=by rw [shr,if_pos (by rw [<-hw];simp_all),hA,ha]
 refine aY hg ay (by kernel_rfl) V (fun x=>lc (aj x)) ws hV hl (fun z(s:Int×List Int×LLA)=>[(0,.i (R0)),(1,.v V),(5,.o 0),(6,.i (A)),(8,.i (s.1)),(9,.i (z))]) (fun z(s:Int×List Int×LLA)=>[.rw ⟨3,1,s.2.2⟩]) (fun z(s:Int×List Int×LLA)=>s.2.2=vw aj s.2.1/\(s.2.1.length:Int)=z) (fun(s:Int×List Int×LLA) rest=>s.2.1++shG R0 A s.1 rest) (shr n ws) (0,[],[]) (by simpa using hG.symm) ⟨rfl,rfl⟩ (Wk.weak (wkG [some _] zr6 ⟨wqE rfl rfl,trivial⟩ (by decide) aG)) (fun z s B hz h0 hi he=> ?_) (fun z s x rest B z0 z1 z2 hx hy h0 hi hc e1 hB=> ?_)
 ·obtain⟨q,hj,es⟩:=s
  obtain⟨i1,i2⟩:=hi
  dsimp only at i1 i2 h0
  cbv;rw [he];cbv
  obtain rfl:es=GV:=by simp only [shG,List.append_nil]at h0;rw [i1,hb,<-h0]
  exact bV hF rfl (by rw [hb];exact aI _ _)
 ·obtain⟨q,hj,es⟩:=s
  obtain⟨i1,i2⟩:=hi
  dsimp only at i1 i2 h0
  have hk:es.length<=1048576:=by rw [i1,ar];omega
  have pe:=pmV i1
  cbv;rw [hc];cbv;refine goX hg _ z0 hy rfl ?_;cbv
  (first|refine bm hg (bI _ _) rfl (fun Q0 hf=> ?_)|refine aX hg (bI _ _) rfl (fun Q0 hf=> ?_));cbv
  (first|refine bm hg (bI _ _) rfl (fun Q1 hh=> ?_)|refine aX hg (bI _ _) rfl (fun Q1 hh=> ?_));cbv
  refine dz hg rfl (by decide) hk ?_
  cbv
  rw [e1,gW hg]
  have hm:g .w .sub .i64 Q0 Q1=wrap64 (fdv (wrap64 (R0*wrap64 (q+x))) A-fdv (wrap64 (R0*q)) A):=by rw [hf,hh];simp only [aJ hg,gk hg,dp hg]
  rw [hm,aJ hg]
  exact hB ((_,hj++[_],_)) _ _ ⟨(by simpa [shG]using h0),⟨by rw [i1,br];rfl,by simp;omega⟩⟩ (Wk.weak (wkG [some _] zr6 ⟨⟨_,_,rfl,rfl,rfl,rfl,.inl ⟨rfl,by rw [i1];exact jx _ _ rfl⟩⟩,trivial⟩ (by decide) aG))
theorem nu(x:af):PC0 255 [.agg (lc (af.c x))] (.t (abl (td x))):=by
 obtain⟨a0,a1,a2,a3,a4,a5,a6,a7,a8⟩:=x
 refine ad (aM f255) ay func255 fun g F hg hF=> ?_
 cbv
 repeat'(first|(refine bv hg (bi _ _ _) rfl (fun R0 ha=> ?_);cases R0<;>cbv))
 all_goals exact bk hF (by simp only [td];clear hF hg;simp_all)
theorem n6(x:af):PC0 223 [.agg (lc (af.c x))] (.t (abl (td x))):=by
 obtain⟨a0,a1,a2,a3,a4,a5,a6,a7,a8⟩:=x
 refine ad (aM f223) ay func223 fun g F hg hF=> ?_
 cbv
 repeat'(first|(refine bv hg (bR _ _ _) rfl (fun R0 ha=> ?_);cases R0<;>cbv))
 all_goals exact bk hF (by simp only [td];clear hF hg;simp_all)
theorem jp(xs:List af)(hl:xs.length<=1048576):PC0 159 [.c (.view (vw af.c xs))] (.t (abl (ep xs))):=by
 obtain⟨V,hV⟩:=nmE (vw af.c xs)
 have hd:=lmV hV
 have iV:=imV hV
 have kV:=kmV (k:=9) hV fun _=>rfl
 have dV:=dmV hV
 have hb:aN V=(xs.length:Int):=by rw [hV,aO]
 rw [<-hV]
 refine ad (aM f159) ay func159 fun g F hg hF=> ?_
 cbv
 refine aY hg ay (by kernel_rfl) V (fun x=>lc (af.c x)) xs hV hl (fun z(s:Unit)=>[(0,.v V),(5,.v V),(6,.i (g .ln V)),(7,.i (z))]) (fun z(s:Unit)=>[]) (fun z(s:Unit)=>True) (fun(s:Unit) rest=>rest.all td&&decide ((xs.length:Int)<=12)) (ep xs) () rfl trivial (Wk.weak (wkG [] zr4 trivial (by decide) aG)) (fun z s B hz h0 hi he=> ?_) (fun z s x rest B z0 z1 z2 hx hy h0 hi hc e1 hB=> ?_)
 ·cbv;rw [he];cbv
  exact bk hF (by rw [iR hg,bz hg,hb,<-h0];rfl)
 ·cbv;rw [hc];cbv;refine goX hg _ z0 hy rfl ?_;cbv
  (first|refine bv hg (n6 x) rfl (fun R0 ha=> ?_)|refine bd hg (n6 x) rfl (fun R0 ha=> ?_));cbv
  cases R0<;>cbv
  ·exact bk hF (by rw [<-h0,zqD,<-ha];rfl)
  ·rw [e1]
   exact hB (()) _ _ ⟨by rw [<-h0,zqD,<-ha];rfl,trivial⟩ (Wk.weak (wkG [] zr4 trivial (by decide) aG))
theorem ji(xs:List af)(hl:xs.length<=1048576):PC0 199 [.c (.view (vw af.c xs))] (.t (abl (ep xs))):=by
 obtain⟨V,hV⟩:=nmE (vw af.c xs)
 have hd:=lmV hV
 have iV:=imV hV
 have kV:=kmV (k:=9) hV fun _=>rfl
 have dV:=dmV hV
 have hb:aN V=(xs.length:Int):=by rw [hV,aO]
 rw [<-hV]
 refine ad (aM f199) ay func199 fun g F hg hF=> ?_
 cbv
 refine aY hg ay (by kernel_rfl) V (fun x=>lc (af.c x)) xs hV hl (fun z(s:Unit)=>[(0,.v V),(3,.i (z))]) (fun z(s:Unit)=>[]) (fun z(s:Unit)=>True) (fun(s:Unit) rest=>rest.all td&&decide ((xs.length:Int)<=12)) (ep xs) () rfl trivial (Wk.weak (wkG [] zr2 trivial (by decide) aG)) (fun z s B hz h0 hi he=> ?_) (fun z s x rest B z0 z1 z2 hx hy h0 hi hc e1 hB=> ?_)
 ·cbv;rw [he];cbv
  exact bk hF (by rw [iR hg,bz hg,hb,<-h0];rfl)
 ·cbv;rw [hc];cbv;refine goX hg _ z0 hy rfl ?_;cbv
  (first|refine bv hg (nu x) rfl (fun R0 ha=> ?_)|refine bd hg (nu x) rfl (fun R0 ha=> ?_));cbv
  cases R0<;>cbv
  ·exact bk hF (by rw [<-h0,zqD,<-ha];rfl)
  ·rw [e1]
   exact hB (()) _ _ ⟨by rw [<-h0,zqD,<-ha];rfl,trivial⟩ (Wk.weak (wkG [] zr2 trivial (by decide) aG))
theorem ix(xs:List af)(hl:xs.length<=1048576):da prog 158 [.c (.view (vw af.c xs))] fun res hd=>res= .o 0/\hd=[⟨3,1,vw aj (xs.map hyp)⟩]:=by
 obtain⟨V,hV⟩:=nmE (vw af.c xs)
 have hj:=lmV hV
 have iV:=imV hV
 have kV:=kmV (k:=9) hV fun _=>rfl
 have dV:=dmV hV
 obtain⟨GV,ha⟩:=nmE (vw aj (xs.map hyp))
 rw [<-hV,<-ha]
 refine ad (aM f158) ay func158 fun g F hg hF=> ?_
 cbv
 refine aY hg ay (by kernel_rfl) V (fun x=>lc (af.c x)) xs hV hl (fun z(s:List Int×LLA)=>[(3,.o 0),(6,.v V),(7,.i (g .ln V)),(8,.i (z))]) (fun z(s:List Int×LLA)=>[.rw ⟨3,1,s.2⟩]) (fun z(s:List Int×LLA)=>s.2=vw aj s.1/\(s.1.length:Int)=z) (fun(s:List Int×LLA) rest=>s.1++rest.map hyp) (xs.map hyp) ([],[]) rfl ⟨rfl,rfl⟩ (Wk.weak (wkG [none] zr4 ⟨⟨_,rfl,rfl⟩,trivial⟩ (by decide) aG)) (fun z s B hz h0 hi he=> ?_) (fun z s x rest B z0 z1 z2 hx hy h0 hi hc e1 hB=> ?_)
 ·obtain⟨hf,es⟩:=s
  obtain⟨i1,i2⟩:=hi
  dsimp only at i1 i2 h0
  cbv;rw [he];cbv
  obtain rfl:es=GV:=by simp only [List.map_nil,List.append_nil]at h0;rw [i1,ha,<-h0]
  exact bV hF rfl (by rw [ha];exact aI _ _)
 ·obtain⟨hf,es⟩:=s
  obtain⟨i1,i2⟩:=hi
  dsimp only at i1 i2 h0
  have hh:es.length<=1048576:=by rw [i1,ar];omega
  cbv;rw [hc];cbv;refine goX hg _ z0 hy rfl ?_;cbv
  (first|refine bm hg (i8 x) rfl (fun Q0 hb=> ?_)|refine aX hg (i8 x) rfl (fun Q0 hb=> ?_));cbv
  refine dz hg rfl (by decide) hh ?_
  cbv
  rw [e1,gW hg]
  exact hB ((hf++[_],_)) _ _ ⟨(by simpa [hb]using h0),⟨by rw [i1,br,<-hb];rfl,by simp;omega⟩⟩ (Wk.weak (wkG [some _] zr4 ⟨⟨_,_,rfl,rfl,rfl,rfl,.inl ⟨rfl,by rw [i1];exact jx _ _ rfl⟩⟩,trivial⟩ (by decide) aG))
theorem jf(xs:List af)(hl:xs.length<=1048576):da prog 257 [.c (.view (vw af.c xs))] fun res hd=>res= .o 0/\hd=[⟨3,1,vw aj (xs.map hyp)⟩]:=by
 obtain⟨V,hV⟩:=nmE (vw af.c xs)
 have hj:=lmV hV
 have iV:=imV hV
 have kV:=kmV (k:=9) hV fun _=>rfl
 have dV:=dmV hV
 obtain⟨GV,ha⟩:=nmE (vw aj (xs.map hyp))
 rw [<-hV,<-ha]
 refine ad (aM f257) ay func257 fun g F hg hF=> ?_
 cbv
 refine aY hg ay (by kernel_rfl) V (fun x=>lc (af.c x)) xs hV hl (fun z(s:List Int×LLA)=>[(0,.v V),(3,.o 0),(4,.i (z))]) (fun z(s:List Int×LLA)=>[.rw ⟨3,1,s.2⟩]) (fun z(s:List Int×LLA)=>s.2=vw aj s.1/\(s.1.length:Int)=z) (fun(s:List Int×LLA) rest=>s.1++rest.map hyp) (xs.map hyp) ([],[]) rfl ⟨rfl,rfl⟩ (Wk.weak (wkG [some _] zr3 ⟨wqE rfl rfl,trivial⟩ (by decide) aG)) (fun z s B hz h0 hi he=> ?_) (fun z s x rest B z0 z1 z2 hx hy h0 hi hc e1 hB=> ?_)
 ·obtain⟨hf,es⟩:=s
  obtain⟨i1,i2⟩:=hi
  dsimp only at i1 i2 h0
  cbv;rw [he];cbv
  obtain rfl:es=GV:=by simp only [List.map_nil,List.append_nil]at h0;rw [i1,ha,<-h0]
  exact bV hF rfl (by rw [ha];exact aI _ _)
 ·obtain⟨hf,es⟩:=s
  obtain⟨i1,i2⟩:=hi
  dsimp only at i1 i2 h0
  have hh:es.length<=1048576:=by rw [i1,ar];omega
  cbv;rw [hc];cbv;refine goX hg _ z0 hy rfl ?_;cbv
  (first|refine bm hg (iU x) rfl (fun Q0 hb=> ?_)|refine aX hg (iU x) rfl (fun Q0 hb=> ?_));cbv
  refine dz hg rfl (by decide) hh ?_
  cbv
  rw [e1,gW hg]
  exact hB ((hf++[_],_)) _ _ ⟨(by simpa [hb]using h0),⟨by rw [i1,br,<-hb];rfl,by simp;omega⟩⟩ (Wk.weak (wkG [some _] zr3 ⟨⟨_,_,rfl,rfl,rfl,rfl,.inl ⟨rfl,by rw [i1];exact jx _ _ rfl⟩⟩,trivial⟩ (by decide) aG))
theorem dN(x:af)(gr:Bool):PC0 277 [.agg (lc (af.c x)),abl gr] (.i (wgt gr x)):=by
 obtain⟨a0,a1,a2,a3,a4,a5,a6,a7,a8⟩:=x
 cases gr<;>(refine ad (aM f277) ay func277 fun g F hg hF=> ?_;cbv;exact aV hF (by(try rw [gk hg]);rfl))
theorem ec(x:af):PC0 298 [.agg (lc (af.c x))] (.i (qE x)):=by
 obtain⟨a0,a1,a2,a3,a4,a5,a6,a7,a8⟩:=x
 refine ad (aM f298) ay func298 fun g F hg hF=> ?_
 cbv
 exact aV hF (by rw [Fy hg];rfl)
theorem er(x:af):PC0 295 [.agg (lc (af.c x))] (.i (ww x)):=by
 obtain⟨a0,a1,a2,a3,a4,a5,a6,a7,a8⟩:=x
 refine ad (aM f295) ay func295 fun g F hg hF=> ?_
 cbv
 repeat'(first|(split<;>rename_i hh<;>(try rw [hh])<;>(try simp only [dD hg]at hh)<;>cbv))
 all_goals exact aV hF (by simp only [ww];grind)
end Go.Proofs.YtkicjdeddpihaaaGreat
